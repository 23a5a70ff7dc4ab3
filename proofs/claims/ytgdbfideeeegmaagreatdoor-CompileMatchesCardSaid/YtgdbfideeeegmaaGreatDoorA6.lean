/- Contracts of functions; conditions: those each theorem names. -/
import Derived.Shelf.Small.Bits
import Derived.Test.YtgdbfideeeegmaaGreatDoorA5
set_option linter.unusedSectionVars false
set_option linter.unusedSimpArgs false
set_option linter.unusedVariables false
set_option linter.unnecessarySimpa false
set_option maxHeartbeats 8000000
set_option maxRecDepth 20000
namespace Go.Proofs.YtgdbfideeeegmaaGreatDoor
open Go.Lx Go.RowKit _root_.Go.Proofs.Tryz
abbrev ExP (Yo:Nat):Prop:= ∀(w:World) [dQ prog w] (cb:Nat) (eb:Option Addr) (en ec vs B L:Nat) (e_:Sl w (aD cb) [.slice eb en ec,vI (vs:Int),vI (B:Int)]) (gS:vs≤6) (hL:2^vs=L) (jA:1≤B) (hB:B≤4096)
  (tr:Key→Nat→Key) (fin:Key→Bool) (start:Key) (Rp:Key→SR→Prop) (r0:SR) (fk fn ff:Value) (Kl:Rp start r0) (Yp:r0.lX=[]) (uH: ∀k r,Rp k r→fS r.a=true∧fS r.b=true)
  (Ec: ∀w1 k r,Inv w [] w1→Rp k r→(∀it∈r.lX,it.P w1)→fh prog w1 fk [(.agg #[r.a,r.b])] [] (fun v O'=>v=str k∧O'=[]))
  (fN: ∀w1 k r x,Inv w [] w1→Rp k r→(∀it∈r.lX,it.P w1)→x<L→fh prog w1 fn [(.agg #[r.a,r.b]),.int .u8 (x:Int)] [] (fun v N=> ∃r',v=(.agg #[r'.a,r'.b])∧N=r'.lX∧Rp (tr k x) r'))
  (Cs: ∀w1 k r,Inv w [] w1→Rp k r→(∀it∈r.lX,it.P w1)→fh prog w1 ff [(.agg #[r.a,r.b])] [] (fun v O'=>v=.bool (fin k)∧O'=[])),
  dT prog w (.iface 163 (.agg #[])) Yo [(eJ cb 0),(.agg #[r0.a,r0.b]),fk,fn,ff] [] (fun v N=> ∃M k',v=dV M k'∧N=[dI 56 4 3 M k']∧fV (vs:Int) B M (fun u=>fin (u.foldl tr start))∧Ih tr L start B) (¬Ih tr L start B)
theorem ExB:(let Yo:Nat:=154;let oJ:Nat:=208;ExP Yo)∧(let Yo:Nat:=74;let oJ:Nat:=122;ExP Yo):=by
 refine⟨?_,?_⟩
 have TT:=func154;have hq2:=ntmps154;have TU:=oV;have GF:=mJ;have RL:=Z1;have hq7:=results154
 rotate_left
 have TT:=func74;have hq2:=ntmps74;have TU:=m_;have GF:=lC;have RL:=Z2;have hq7:=results74
 rotate_left
 all_goals
  intro Yo oJ w _ cb eb en ec vs B L e_ gS hL jA hB tr fin start Rp r0 fk fn ff Kl Yp uH Ec fN Cs
  refine ek TT F hq2 F ?_
  have VU:L≤64:=by rw[←hL];exact ck (by decide) gS
  obtain⟨ha0,J2⟩:=uH _ _ Kl
  refine aQ (ax (ef [r0.a,r0.b] (fun z1=>?_)))
  refine ax (b_ bY (fun z2=>?_))
  refine bi (aG (eR 1 TU GF) (ax (cP (m:=1) (parts:=[(0,_)]) (cs:=[r0.a,r0.b]) RL GF (by decide) (by kernel_rfl) F (fun z3=>?_))))
  refine aj (aQ (ax (mA str (fun n:Nat=>Value.int .i64 (n:Int)) (fun m4=>?_))))
  refine ay (eR 3 TU GF) ?_
  have rS:=(eK (O:=[dZ str (fun n:Nat=>Value.int .i64 (n:Int)) m4 [],bJ z3 1 oJ 2 [r0.a,r0.b],oI z2 25 [(vI 0),(vI 0),nS,nS],oI z1 oJ [r0.a,r0.b]]) fun w1 hI=>haveI:=eP hI;Ec w1 start r0 hI.oE Kl (by rw[Yp];simp))
  refine ax (fT rS F F ?_)
  clear rS
  rintro vr O' ⟨N,rfl,rfl,rfl⟩
  refine ax (gA (a:=start) (v:=(0:Nat)) 0 jo (ie.string wZ) F F F F (by simp) ?_)
  refine aN (aj (bo bg (ae (cF mj F bM F F (a6 e_) (by first|omega|(simp;done)|(simp;omega)|(simp_all;done)|(simp_all;omega))) (ae (dD eO F F e_ F) (ae (dc [vN vs,(vI 0),nS,nS] kg bY (by kernel_rfl)) (ax (b_ bY (fun z5=>?_))))))))
  refine ax (c8 [vN vs,(vI 0),nS,nS] 0 bY ?_)
  refine bq (aj (aK (T.fJ 4 1 ?_)))
  refine T.fJ 56 1 ?_
  refine dq (O':=[bJ z3 1 oJ 2 (fq c2 [r0]),dZ str (fun n:Nat=>Value.int .i64 (n:Int)) m4 [start].zipIdx,az none 0 56 1 (dO []),az none 0 4 1 (cO []),oI z5 25 [vN vs,(vI 0),nS,nS],oI z2 25 [(vI 0),(vI 0),nS,nS],oI z1 oJ [r0.a,r0.b]]++(cw 3 []++j5 [r0])) (by rw[show j5 [r0]=[] by simp[j5,Yp]];exact(cH [4,3,0,0,0,0,0])) ?_
  refine ep (fun(s:Nat) ρ O=> ∃(ks:List Key) (qs:List SR) (rq:List Rec) (sb ob fb:Option Addr) (sc oc fc:Nat),O=([az sb sc oJ 2 (fq c2 qs),dZ str (fun n:Nat=>Value.int .i64 (n:Int)) m4 ks.zipIdx,az ob oc 56 1 (dO rq),az fb fc 4 1 (cO ((ks.take s).map fin)),oI z5 25 [vN vs,(vI 0),(.slice ob s oc),(.slice fb s fc)],oI z2 25 [(vI 0),(vI 0),nS,nS],oI z1 oJ [r0.a,r0.b]]++(cw 3 rq++j5 qs))∧zg tr L start s=ks∧Ed tr L start ks∧Nj Rp ks qs∧ks.length≤B∧rT tr L ks s (nums rq)∧dh [(0,(eJ cb 0)),(1,(.agg #[r0.a,r0.b])),(2,fk),(3,fn),(4,ff),(6,(.pointer (aD z1))),(10,(.pointer (aD z2))),(11,(.slice sb qs.length sc)),(12,(.map (some m4))),(13,(.pointer (aD z5))),(14,vN s)] ρ) (fun s=>B-s) 0 ?_ ?_
  ·exact⟨[start],[r0],[],(aD z3),none,none,1,0,0,F,F,Ed.one _ _ _,Nj.one Kl,by simpa using jA,⟨F,bj _,fun i hi=>absurd hi (by omega),fun i hi=>absurd hi (by omega)⟩,(.of F)⟩
  rintro s ρ O ⟨ks,qs,rq,sb,ob,fb,sc,oc,fc,rfl,pu,hF,hR,RM,hE,hH⟩
  obtain⟨gv,rfl⟩:=hH.elim
  clear hH
  have Kb:=hR.1
  have L5:rq.length=s:=by have:=hE.len;simpa using this
  have Qj:=hE.le
  refine br (a7 (ay (cL RL) (aX cV (aL F (fun hc=>?_) (fun hc=>?_)))))
  ·have DN:s<qs.length:=by omega
   have VV:s<ks.length:=by omega
   refine aE (br (aK (bo bg (ae (cF mj F bM F F (a6 e_) (by first|omega|(simp;done)|(simp;omega)|(simp_all;done)|(simp_all;omega))) (ae (dD eO F F e_ F) (ae (cg (o8 (v:=vs) F F (by omega)) (v':=vN L) (by rw[hL])) (ax (fg L da bM F F (by omega) (by omega) (fun z6=>?_)))))))))
   refine aS (bq (ay (cL da) (bH (aK ?_))))
   refine ep (fun(x:Nat) ρ O=> ∃(fK:List Key) (iX:List SR) (ys:List Int) (tb:Option Addr) (tc:Nat),O=([bJ z6 L 3 1 (ints ys),az tb tc oJ 2 (fq c2 iX),dZ str (fun n:Nat=>Value.int .i64 (n:Int)) m4 fK.zipIdx,az ob oc 56 1 (dO rq),az fb fc 4 1 (cO ((ks.take s).map fin)),oI z5 25 [vN vs,(vI 0),(.slice ob s oc),(.slice fb s fc)],oI z2 25 [(vI 0),(vI 0),nS,nS],oI z1 oJ [r0.a,r0.b]]++(cw 3 rq++j5 iX))∧x≤L∧ys.length=L∧Ed tr L start fK∧Nj Rp fK iX∧fK.length≤B∧fK=((List.range x).map (tr (ks.getD s []))).foldl add ks∧(∀i,i<x→ys[i]? =some ((ix (tr (ks.getD s []) i) fK:Nat):Int))∧dh [(0,(eJ cb 0)),(1,(.agg #[r0.a,r0.b])),(2,fk),(3,fn),(4,ff),(6,(.pointer (aD z1))),(10,(.pointer (aD z2))),(11,(.slice tb iX.length tc)),(12,(.map (some m4))),(13,(.pointer (aD z5))),(14,vN s),(15,(.slice (aD z6) L L)),(45,vI (L:Int)),(46,vN x)] ρ) (fun x=>L-x) 0 ?_ ?_
   ·exact⟨ks,qs,List.replicate L 0,sb,sc,by simp,bj _,by simp,hF,hR,RM,F,fun i hi=>absurd hi (by omega),(.of F)⟩
   rintro x ρ O ⟨fK,iX,ys,tb,tc,rfl,hx,Ee,Lu,Aq,Nk,qU,AH,hH⟩
   obtain⟨gv,rfl⟩:=hH.elim
   clear hH
   have v_:ks<+:fK:=qU▸ig _ _
   have tU:fK.getD s []=ks.getD s []:=na v_ VV
   have Z3:=v_.length_le
   have Nl:=Aq.1
   have xC:s<iX.length:=by omega
   have VW:=Aq.2 s xC
   rw[tU]at VW
   refine aG cV (dJ (aL F (fun hc=>?_) (fun hc=>?_)))
   ·have MN:x<L:=by omega
    have Nn:x<L:=by omega
    have Qp:ks.getD s []∈fK:=by rw[←tU,au,ak (by omega),Option.getD_some];exact av _
    refine aE (br (aK (a7 (aj (a7 (aN (ay (eF (i:=s) RL GF F F (eA 1) xC (by rw[lD (f:=c2) (n:=2) (fun _=>rfl)];omega)) (ae (fy [iX[s].a,iX[s].b] TU F GF F F (bK _) (eA 1) (TV xC)) (ay (gi eO il F (rA (by omega))) ?_)))))))))
    have No:=(eK (O:=([bJ z6 L 3 1 (ints ys),az tb tc oJ 2 (fq c2 iX),dZ str (fun n:Nat=>Value.int .i64 (n:Int)) m4 fK.zipIdx,az ob oc 56 1 (dO rq),az fb fc 4 1 (cO ((ks.take s).map fin)),oI z5 25 [vN vs,(vI 0),(.slice ob s oc),(.slice fb s fc)],oI z2 25 [(vI 0),(vI 0),nS,nS],oI z1 oJ [r0.a,r0.b]]++(cw 3 rq++j5 iX))) fun w1 hI=>haveI:=eP hI;fN w1 (ks.getD s []) iX[s] x hI.oE VW (fun it gf=>hI.holds it (ah _ (ah _ (u7 xC gf)))) Nn)
    refine ax (fT No F F ?_)
    clear No
    rintro vr O' ⟨N9,rfl,r9,rfl,rfl,Np⟩
    obtain⟨Nq,hb9⟩:=uH _ _ Np
    refine dW (O':=([bJ z6 L 3 1 (ints ys),az tb tc oJ 2 (fq c2 iX),dZ str (fun n:Nat=>Value.int .i64 (n:Int)) m4 fK.zipIdx,az ob oc 56 1 (dO rq),az fb fc 4 1 (cO ((ks.take s).map fin)),oI z5 25 [vN vs,(vI 0),(.slice ob s oc),(.slice fb s fc)],oI z2 25 [(vI 0),(vI 0),nS,nS],oI z1 oJ [r0.a,r0.b]]++(r9.lX++(cw 3 rq++j5 iX)))) (by exact gh [] _ r9.lX (cw 3 rq++j5 iX)) ?_
    refine ax (b_ GF (fun z7=>?_))
    refine ax (xA (v:=(.agg #[r9.a,r9.b])) (vs:=[r9.a,r9.b]) 0 GF F F F F (by simp[Nq,hb9]) F (by simp[fC]) ?_)
    refine bi (a7 (ay (eR 0 TU GF) ?_))
    have D6:=(eK (O:=([oI z7 oJ [r9.a,r9.b],bJ z6 L 3 1 (ints ys),az tb tc oJ 2 (fq c2 iX),dZ str (fun n:Nat=>Value.int .i64 (n:Int)) m4 fK.zipIdx,az ob oc 56 1 (dO rq),az fb fc 4 1 (cO ((ks.take s).map fin)),oI z5 25 [vN vs,(vI 0),(.slice ob s oc),(.slice fb s fc)],oI z2 25 [(vI 0),(vI 0),nS,nS],oI z1 oJ [r0.a,r0.b]]++(r9.lX++(cw 3 rq++j5 iX)))) fun w1 hI=>haveI:=eP hI;Ec w1 (tr (ks.getD s []) x) r9 hI.oE Np (fun it gf=>hI.holds it (ah _ (aH _ gf))))
    refine ax (fT D6 F F ?_)
    clear D6
    rintro vr O' ⟨N,rfl,rfl,rfl⟩
    refine ae (cg (kF (a:=tr (ks.getD s []) x) jo bM (ie.string wZ) F F (mG 3)) (v':=(.tuple #[vN (if tr (ks.getD s []) x∈fK then ix (tr (ks.getD s []) x) fK else 0),.bool (decide (tr (ks.getD s []) x∈fK))])) (by rw[l8];generalize tr (ks.getD s []) x=k9;by_cases h9:k9∈fK<;>simp[h9])) (ay (bI _) (ae (bI _) (aS (aS (bq (aN (aX g_ (T.cond F (fun hc=>?_) (fun hc=>?_)))))))))
    ·have Km:tr (ks.getD s []) x∉fK:=by simpa using hc
     have nq:=Ii Km
     refine bo (cL RL) (aj (a7 (ay (eR 0 TU GF) ?_)))
     have Ef:=(eK (O:=([oI z7 oJ [r9.a,r9.b],bJ z6 L 3 1 (ints ys),az tb tc oJ 2 (fq c2 iX),dZ str (fun n:Nat=>Value.int .i64 (n:Int)) m4 fK.zipIdx,az ob oc 56 1 (dO rq),az fb fc 4 1 (cO ((ks.take s).map fin)),oI z5 25 [vN vs,(vI 0),(.slice ob s oc),(.slice fb s fc)],oI z2 25 [(vI 0),(vI 0),nS,nS],oI z1 oJ [r0.a,r0.b]]++(r9.lX++(cw 3 rq++j5 iX)))) fun w1 hI=>haveI:=eP hI;Ec w1 (tr (ks.getD s []) x) r9 hI.oE Np (fun it gf=>hI.holds it (ah _ (aH _ gf))))
     refine ax (fT Ef F F ?_)
     clear Ef
     rintro vr O' ⟨N,rfl,rfl,rfl⟩
     refine aN (ax (rz (a:=tr (ks.getD s []) x) (v:=iX.length) 3 jo (ie.string wZ) F F F F (by rw[nX];exact Km) ?_))
     refine bi (bo (eR 0 TU GF) (ax (cP (m:=1) (parts:=[(0,_)]) (cs:=[r9.a,r9.b]) RL GF (by decide) (by kernel_rfl) F (fun z8=>?_))))
     refine ax (dE 3 RL RL GF F F F F (by rw[lD (f:=c2) (n:=2) (fun _=>rfl)]) (by decide) (Src.row (j:=0) F (by simp)) (by simp[Nq,hb9]) (by omega) (by decide) (by decide) (fun z9 qq=>?_))
     refine aj (a7 (ay bg (ae (cF mj F bM F F (a6 e_) (by first|omega|(simp;done)|(simp;omega)|(simp_all;done)|(simp_all;omega))) (ae (dD eO F F e_ F) (aX km (aL F (fun hc=>?_) (fun hc=>?_)))))))
     ·have Z4:iX.length≥B:=by omega
      refine a_ (ae (dc _ xW Cp F) (ae (sL Ie F) ?_))
      exact eU F (xX F (fun _=>⟨F,(Lu.add Qp Nn).Z5 (by rw[nq];simp;omega)⟩))
     have Z6: ¬iX.length≥B:=by omega
     refine aE (a_ (de (ay (dB x da bM F F (eA 2) (by omega) (by rw[ai];omega)) (ax (n7 (v:=vI (iX.length:Int)) (vs:=[(vI (iX.length:Int))]) (cs:=ints ys) x 2 bM F F F F F (by simp) F (by first|(simp;omega)|(simp_all;omega)) ?_)))))
     refine dW (O':=([bJ z8 1 oJ 2 [r9.a,r9.b],oI z7 oJ [r9.a,r9.b],bJ z6 L 3 1 (ints (ys.set x ((ix (tr (ks.getD s []) x) (add fK (tr (ks.getD s []) x)):Nat):Int))),az z9 qq oJ 2 ((fq c2 iX)++[r9.a,r9.b]),dZ str (fun n:Nat=>Value.int .i64 (n:Int)) m4 (fK.zipIdx++[(tr (ks.getD s []) x,iX.length)]),az ob oc 56 1 (dO rq),az fb fc 4 1 (cO ((ks.take s).map fin)),oI z5 25 [vN vs,(vI 0),(.slice ob s oc),(.slice fb s fc)],oI z2 25 [(vI 0),(vI 0),nS,nS],oI z1 oJ [r0.a,r0.b]]++(r9.lX++(cw 3 rq++j5 iX)))) (by rw[show fC (ints ys) x [(vI (iX.length:Int))]=ints (ys.set x ((ix (tr (ks.getD s []) x) (add fK (tr (ks.getD s []) x)):Nat):Int))from(by rw[nq,gr Km,show ix (tr (ks.getD s []) x) [tr (ks.getD s []) x]=0 by simp[ix],Nat.add_zero,←Nl];simp[fC])];exact cd (aP _)) ?_
     refine bi (a_ (ae (dj (b:=1) x F F (by omega)) (bH ?_)))
     have GG: ∀y,y<x→tr (ks.getD s []) y∈fK:=fun y hy=>by rw[qU,et];exact .inr (List.mem_map_of_mem (List.mem_range.2 hy))
     have GH: ∀i,i<x+1→(ys.set x ((ix (tr (ks.getD s []) x) (add fK (tr (ks.getD s []) x)):Nat):Int))[i]? =some ((ix (tr (ks.getD s []) i) (add fK (tr (ks.getD s []) x)):Nat):Int):=fun i hi=>by
      by_cases e:i=x
      ·subst e;rw[List.getElem?_set_self (by omega)]
      ·rw[List.getElem?_set_ne (fun h=>e h.symm),AH i (by omega),iM (kH _ _) (GG i (by omega))]
     have Bu:=Aq.snoc Np
     rw[←nq]at Bu
     have hF3:=Lu.add Qp Nn
     exact⟨x+1,by omega,[bJ z6 L 3 1 (ints (ys.set x ((ix (tr (ks.getD s []) x) (add fK (tr (ks.getD s []) x)):Nat):Int))),az z9 qq oJ 2 (fq c2 (iX++[r9])),dZ str (fun n:Nat=>Value.int .i64 (n:Int)) m4 ((add fK (tr (ks.getD s []) x)).zipIdx),az ob oc 56 1 (dO rq),az fb fc 4 1 (cO ((ks.take s).map fin)),oI z5 25 [vN vs,(vI 0),(.slice ob s oc),(.slice fb s fc)],oI z2 25 [(vI 0),(vI 0),nS,nS],oI z1 oJ [r0.a,r0.b]]++(cw 3 rq++j5 (iX++[r9])),(by rw[Bv,w7,nq,show(fK++[tr (ks.getD s []) x]).zipIdx=fK.zipIdx++[(tr (ks.getD s []) x,iX.length)] by rw[List.zipIdx_append,Nl];simp];exact zh _ _ _ _ _ (by exact Sub.d (.d (.k (.k (.k (.k (.k (.k (.k (.k .z))))))))))),add fK (tr (ks.getD s []) x),iX++[r9],_,z9,qq,F,by omega,by simp[Ee],hF3,Bu,by rw[nq];simp;omega,by rw[jK,←qU],GH,⟨F,F,F,F,F,F,F,(show Value.slice z9 (iX.length+1) qq=_ by rw[aJ];rfl),F,F,F,F,F,F,trivial⟩⟩
    have Km:tr (ks.getD s []) x∈fK:=by simpa using hc
    have nq:=Ij Km
    refine aE (a_ (de (ay (dB x da bM F F (eA 1) (by omega) (by rw[ai];omega)) (ax (n7 (v:=vN (if tr (ks.getD s []) x∈fK then ix (tr (ks.getD s []) x) fK else 0)) (vs:=[(vN (if tr (ks.getD s []) x∈fK then ix (tr (ks.getD s []) x) fK else 0))]) (cs:=ints ys) x 1 bM F F F F F (by simp) F (by first|(simp;omega)|(simp_all;omega)) ?_)))))
    refine dW (O':=([oI z7 oJ [r9.a,r9.b],bJ z6 L 3 1 (ints (ys.set x ((ix (tr (ks.getD s []) x) (add fK (tr (ks.getD s []) x)):Nat):Int))),az tb tc oJ 2 (fq c2 iX),dZ str (fun n:Nat=>Value.int .i64 (n:Int)) m4 fK.zipIdx,az ob oc 56 1 (dO rq),az fb fc 4 1 (cO ((ks.take s).map fin)),oI z5 25 [vN vs,(vI 0),(.slice ob s oc),(.slice fb s fc)],oI z2 25 [(vI 0),(vI 0),nS,nS],oI z1 oJ [r0.a,r0.b]]++(r9.lX++(cw 3 rq++j5 iX)))) (by rw[show fC (ints ys) x [(vN (if tr (ks.getD s []) x∈fK then ix (tr (ks.getD s []) x) fK else 0))]=ints (ys.set x ((ix (tr (ks.getD s []) x) (add fK (tr (ks.getD s []) x)):Nat):Int))from(by rw[nq,aB Km];simp[fC])];exact cd (aP _)) ?_
    refine bi (a_ (ae (dj (b:=1) x F F (by omega)) (bH ?_)))
    have GG: ∀y,y<x→tr (ks.getD s []) y∈fK:=fun y hy=>by rw[qU,et];exact .inr (List.mem_map_of_mem (List.mem_range.2 hy))
    have GH: ∀i,i<x+1→(ys.set x ((ix (tr (ks.getD s []) x) (add fK (tr (ks.getD s []) x)):Nat):Int))[i]? =some ((ix (tr (ks.getD s []) i) (add fK (tr (ks.getD s []) x)):Nat):Int):=fun i hi=>by
     by_cases e:i=x
     ·subst e;rw[List.getElem?_set_self (by omega)]
     ·rw[List.getElem?_set_ne (fun h=>e h.symm),AH i (by omega),iM (kH _ _) (GG i (by omega))]
    have Bu:=Aq
    rw[←nq]at Bu
    exact⟨x+1,by omega,[bJ z6 L 3 1 (ints (ys.set x ((ix (tr (ks.getD s []) x) (add fK (tr (ks.getD s []) x)):Nat):Int))),az tb tc oJ 2 (fq c2 iX),dZ str (fun n:Nat=>Value.int .i64 (n:Int)) m4 ((add fK (tr (ks.getD s []) x)).zipIdx),az ob oc 56 1 (dO rq),az fb fc 4 1 (cO ((ks.take s).map fin)),oI z5 25 [vN vs,(vI 0),(.slice ob s oc),(.slice fb s fc)],oI z2 25 [(vI 0),(vI 0),nS,nS],oI z1 oJ [r0.a,r0.b]]++(cw 3 rq++j5 iX),(by rw[nq];exact fP _ _ _ _ (by exact Sub.d (.k (.k (.k (.k (.k (.k (.k (.k .z)))))))))),add fK (tr (ks.getD s []) x),iX,_,tb,tc,F,by omega,by simp[Ee],Lu.add Qp Nn,Bu,by rw[nq];exact Nk,by rw[jK,←qU],GH,(.of F)⟩
   have MT: ¬x<L:=by omega
   refine cD ?_
   refine T.ds [az tb tc oJ 2 (fq c2 iX),oI z5 25 [vN vs,(vI 0),(.slice ob s oc),(.slice fb s fc)]] [(0,0),(1,0),(2,0),(5,0),(6,0),(7,0),(8,0),(9,0),(10,0),(11,0),(3,1),(4,1),(15,0),(12,1),(13,1),(14,1),(16,2),(17,2),(18,2)] (by exact Sub.d (.k (.d (.d (.d (.k .z)))))) ?_
   refine ap F (bu dm fx) (ap F (bF 1 eY) (ap F aw (ap F (bu dm e7) (ap F (bF 1 eS) (ap F aw (ap F aw (ap F aw (ap F (eF (i:=s) RL GF F F (eA 0) xC (by rw[lD (f:=c2) (n:=2) (fun _=>rfl)];omega)) (ap F (fy [iX[s].a,iX[s].b] TU F GF F F (bK _) (eA 0) (TV xC)) ?_)))))))))
   refine cG F F (dL (v:=(.slice (aD z6) L L)) eY eo F F F (fun Ap=>⟨by exact Sub.d (.d (.k (.d (.d (.d (.k .z)))))),?_⟩))
   refine cG F F (dE 4 eY eY eo F F F F (by simp;omega) (by decide) (Src.row (j:=0) F (by simp)) (by simp[fS]) (by omega) (by decide) (by decide) (fun z12 Ct=>⟨by exact Sub.d (.d (.k (.d (.d (.d (.k .z)))))),?_⟩))
   refine ap F (bu dm fx) ?_
   have Eg:=(eK (O:=([bJ Ap 1 56 1 [(.slice (aD z6) L L)],bJ z6 L 3 1 (ints ys),az tb tc oJ 2 (fq c2 iX),dZ str (fun n:Nat=>Value.int .i64 (n:Int)) m4 fK.zipIdx,az z12 Ct 56 1 ((dO rq)++[(.slice (aD z6) L L)]),az fb fc 4 1 (cO ((ks.take s).map fin)),oI z5 25 [vN vs,(vI 0),(.slice ob s oc),(.slice fb s fc)],oI z2 25 [(vI 0),(vI 0),nS,nS],oI z1 oJ [r0.a,r0.b]]++(cw 3 rq++j5 iX))) fun w1 hI=>haveI:=eP hI;Cs w1 (ks.getD s []) iX[s] hI.oE VW (fun it gf=>hI.holds it (ah _ (ah _ (u7 xC gf)))))
   refine cG F F (fT Eg F F ?_)
   clear Eg
   rintro vr O' ⟨N,rfl,rfl,rfl⟩
   refine⟨by exact Sub.d (.d (.k (.d (.d (.d (.k .z)))))),?_⟩
   refine cG F F (dL (v:=.bool (fin (ks.getD s []))) eS gq F F F (fun Dc=>⟨by exact Sub.d (.d (.d (.k (.d (.d (.d (.k .z))))))),?_⟩))
   refine cG F F (dE 6 eS eS gq F F F F (by simp;omega) (by decide) (Src.row (j:=0) F (by simp)) (by simp[fS]) (by omega) (by decide) (by decide) (fun H_ Eh=>⟨by exact Sub.d (.d (.d (.k (.d (.d (.d (.k .z))))))),?_⟩))
   refine cA F F (c8 [(.slice z12 (s+1) Ct)] 7 fx ?_)
   refine cA F F (eV F F (bu dm e7) ?_)
   refine cA F F (c8 [(.slice H_ (s+1) Eh)] 7 e7 ?_)
   refine cy ?_
   have oF:cO ((fK.take (s+1)).map fin)=cO ((ks.take s).map fin)++[.bool (fin (ks.getD s []))]:=by
    rw[aC (by omega:s<fK.length),bm,show fK.take s=ks.take s by obtain⟨t9,rfl⟩:=v_;rw[List.take_append_of_le_length (by omega)],←tU,show fK.getD s []=fK[s] by rw[au,ak (by omega),Option.getD_some]]
    simp
   refine dq (O':=[az tb tc oJ 2 (fq c2 iX),dZ str (fun n:Nat=>Value.int .i64 (n:Int)) m4 fK.zipIdx,az z12 Ct 56 1 (dO (rq++[⟨(aD z6),L,ys⟩])),az H_ Eh 4 1 (cO ((fK.take (s+1)).map fin)),oI z5 25 [vN vs,(vI 0),(.slice z12 (s+1) Ct),(.slice H_ (s+1) Eh)],oI z2 25 [(vI 0),(vI 0),nS,nS],oI z1 oJ [r0.a,r0.b]]++(cw 3 (rq++[⟨(aD z6),L,ys⟩])++j5 iX)) (by
    rw[oF,show dO (rq++[⟨(aD z6),L,ys⟩])=(dO rq)++[(.slice (aD z6) L L)] by simp[Rec.val,Ee],show cw 3 (rq++[⟨(aD z6),L,ys⟩])=cw 3 rq++[bJ z6 L 3 1 (ints ys)] by simp[cw,Rec.qW]]
    exact rU [az tb tc oJ 2 (fq c2 iX),dZ str (fun n:Nat=>Value.int .i64 (n:Int)) m4 fK.zipIdx,az z12 Ct 56 1 ((dO rq)++[(.slice (aD z6) L L)]),az H_ Eh 4 1 ((cO ((ks.take s).map fin))++[.bool (fin (ks.getD s []))]),oI z5 25 [vN vs,(vI 0),(.slice z12 (s+1) Ct),(.slice H_ (s+1) Eh)],oI z2 25 [(vI 0),(vI 0),nS,nS],oI z1 oJ [r0.a,r0.b]] [bJ Dc 1 4 1 [.bool (fin (ks.getD s []))],bJ Ap 1 56 1 [(.slice (aD z6) L L)],bJ z6 L 3 1 (ints ys),az tb tc oJ 2 (fq c2 iX),dZ str (fun n:Nat=>Value.int .i64 (n:Int)) m4 fK.zipIdx,az z12 Ct 56 1 ((dO rq)++[(.slice (aD z6) L L)]),az H_ Eh 4 1 ((cO ((ks.take s).map fin))++[.bool (fin (ks.getD s []))]),oI z5 25 [vN vs,(vI 0),(.slice z12 (s+1) Ct),(.slice H_ (s+1) Eh)],oI z2 25 [(vI 0),(vI 0),nS,nS],oI z1 oJ [r0.a,r0.b]] (cw 3 rq) (j5 iX) (bJ z6 L 3 1 (ints ys)) (by exact Sub.d (.d (.fz [bJ z6 L 3 1 (ints ys)] _ (.fz [bJ z6 L 3 1 (ints ys)] _ (.fz [bJ z6 L 3 1 (ints ys)] _ (.fz [bJ z6 L 3 1 (ints ys)] _ (.fz [bJ z6 L 3 1 (ints ys)] _ (.fz [bJ z6 L 3 1 (ints ys)] _ (.fz [bJ z6 L 3 1 (ints ys)] _ (.k .z))))))))))) ?_
   refine a_ (ay (dj (b:=1) s F F (by omega)) (aj ?_))
   have Cu:x=L:=by omega
   have VX:ys=l9 tr L fK s:=by
    apply List.ext_getElem?
    intro i
    by_cases hi:i<L
    ·rw[AH i (by omega)];simp only[l9,tU];simp[hi]
    ·rw[cn (by omega),cn (by simp[l9];omega)]
   have GG: ∀y,y<L→tr (ks.getD s []) y∈fK:=fun y hy=>by rw[qU,et];exact .inr (List.mem_map_of_mem (List.mem_range.2 (by omega)))
   have Vx:rT tr L fK (s+1) (nums (rq++[⟨(aD z6),L,ys⟩])):=by
    have:=hE.snoc v_ VV VX (by rw[tU];exact GG)
    simpa[nums]using this
   exact⟨s+1,by omega,_,cd (aP _),fK,iX,rq++[⟨(aD z6),L,ys⟩],tb,z12,H_,tc,Ct,Eh,F,by rw[zg,pu,qU,Cu],Lu,Aq,Nk,Vx,(.of F)⟩
  have DP: ¬s<qs.length:=by omega
  refine cD ?_
  refine br ?_
  have Nr:s=ks.length:=by omega
  have rQ:rq.length=(nums rq).length:=by simp
  obtain⟨W,hW⟩: ∃W,W=Lv vs (nums rq) (ks.map fin):=⟨_,F⟩
  have Ik:HasL (vs:Int) ks.length W (fun u=>fin (u.foldl tr start)):=by rw[hW];exact Il gS (by rw[hL];exact hF) (by rw[hL,←Nr];exact hE) (by omega)
  have e1:nums rq=W.next:=by rw[hW];rfl
  have e2:(ks.take s).map fin=W.aT:=by rw[hW,bt (by omega)];rfl
  have e3:(vs:Int)=W.vars:=by rw[hW];rfl
  have e4:(0:Int)=W.start:=by rw[hW];rfl
  have e5:s=W.next.length:=by rw[←e1,←rQ];omega
  have e6:s=W.aT.length:=by rw[Ik.valid.fin,←e5]
  obtain⟨M,hM⟩: ∃m,jD W=m:=⟨_,F⟩
  have Qq:fV (vs:Int) ks.length M (fun u=>fin (u.foldl tr start)):=hM▸Ik.qJ
  obtain⟨z9,Z7⟩: ∃z:DK,z=⟨ob,oc,fb,fc,rq⟩:=⟨_,F⟩
  refine dq (O':=([az ob oc 56 1 (dO rq),az fb fc 4 1 (cO ((ks.take s).map fin)),oI z5 25 [vN vs,(vI 0),(.slice ob s oc),(.slice fb s fc)],oI z2 25 [(vI 0),(vI 0),nS,nS],oI z1 oJ [r0.a,r0.b]]++cw 3 rq)) (w_ _ _ _ _ (by exact Sub.d (.d (.k (.k (.k (.k (.k .z)))))))) ?_
  refine dq (O':=(([az ob oc 56 1 (dO rq),az fb fc 4 1 (cO W.aT)]++cw 3 rq)++[oI z5 25 [(vI W.vars),(vI W.start),(.slice ob W.next.length oc),(.slice fb W.aT.length fc)],oI z2 25 [(vI 0),(vI 0),nS,nS],oI z1 oJ [r0.a,r0.b]])) (by rw[←e5,←e6,←e2,←e3,←e4];exact gR [az ob oc 56 1 (dO rq),az fb fc 4 1 (cO ((ks.take s).map fin))] (cw 3 rq) [oI z5 25 [vN vs,(vI 0),(.slice ob s oc),(.slice fb s fc)],oI z2 25 [(vI 0),(vI 0),nS,nS],oI z1 oJ [r0.a,r0.b]]) ?_
  refine uN (φ:=nums rq=W.next) e1 ?_
  refine dq (O':=[dI 56 4 3 W z9,oI z5 25 (dC W z9),oI z2 25 [(vI 0),(vI 0),nS,nS],oI z1 oJ [r0.a,r0.b]]) (by subst Z7;exact Sub.rf) ?_
  refine a_ (ay (eR 1 dm bY) (TO.lc Bs (aO fun w1 hI=>(haveI:=eP hI;Bt w1 W z9 (hI.at (k:=z9) (mG 0)) Ik.valid (by have:=Ik.valid.n4;omega) (M:=M) hM)) ?_))
  rintro vr O' ⟨N,rfl,k9,rfl,rfl⟩
  refine ae (bI _) (ae (bI _) ?_)
  have Ei:=fun(w1:World) (hI:Inv w [dI 56 4 3 M k9,dI 56 4 3 W z9,oI z5 25 (dC W z9),oI z2 25 [(vI 0),(vI 0),nS,nS],oI z1 oJ [r0.a,r0.b]] w1)=>(haveI:=eP hI;oo w1 cb eb en ec vs B (hI.sl e_) M k9 0)
  refine eU F (fD tV (dT.pure Ei) F (fun z _=>⟨F,fun _=>z ⟨F,by have:=Qq.len;omega⟩⟩) ?_)
  clear Ei
  rintro vr O' ⟨N,rfl,rfl,rfl,_,AI⟩
  refine ax (c8 ((dC M k9)) 3 bY ?_)
  refine dP ?_
  refine cQ (i:=3) hq7 dm F bY F F F ?_
  exact⟨[dI 56 4 3 M k9],(by exact Sub.k .z),M,k9,F,F,⟨Qq.toHasL.le AI,Qq.min⟩,Ej hF (Nr▸hE) RM⟩
theorem Ek:ExP 154:=ExB.1
theorem Im (w:World) [dQ prog w] (lb:Option Addr) (lc:Nat) (l:List Int) (hL:Sl w lb (ints l)) (hn: ∀n∈l,nH n) (hm:13*l.length≤800000):
  cB prog 112 [nS,.slice lb l.length lc] w fun v N=> ∃b' c',v=.slice b' (jw l).length c'∧N=[az b' c' 5 1 (dy (jw l))]:=by
 refine cx.fJ 5 1 ?_
 have h:=TP w none lb 0 0 lc [] l F hL hn (by omega)
 rw[Nat.zero_add,dM]at h
 exact h
theorem Ns (base:World) [dQ prog base] (a:c_) (ka:DK) (ha:At base a ka) (va:Valid a) (za:Nat) (u9:Sl base (aD za) (dC a ka)) (b:c_) (kb:DK) (hb:At base b kb) (vb:Valid b) (zb:Nat) (Io:Sl base (aD zb) (dC b kb)) (s:Nat) (hs:s<a.next.length) (sb:Option Addr) (c cv:Nat) (l:List Nat) (MD:l.Pairwise (· < ·)) (Kn: ∀t∈l,t<b.next.length):
  cx prog base 153 [.agg #[vI ((s:Nat):Int),.slice sb l.length cv],(eJ za 0),(eJ zb 0)] [az sb c 3 1 (cm l)] (fun v O'=> ∃b' c' c2,v=.agg #[vI ((s:Nat):Int),.slice b' (xa a b s l).length c']∧O'=[az b' c2 3 1 (cm (xa a b s l))]):=by
 refine aA func153 F ntmps153 F ?_
 refine aQ (ax (ef [vI ((s:Nat):Int),(.slice sb l.length cv)] (fun z1=>?_)))
 refine ax (b_ mJ (fun z2=>?_))
 refine bq (ae (cF dm F e7 F F (a6 u9) (by show _<4;decide)) (ae (dD eS F F u9 F) (ae (bu oV bM) (ae (bF 1 eO) (ae (dB s eS gq F F (a6 ha.aT) (by rw[va.fin];exact hs) (by rw[ai,va.fin];exact hs)) (aX (dD uT F F ha.aT (qe va hs)) (T.cond F (fun hc=>?_) (fun hc=>?_))))))))
 ·refine a_ ?_
  refine ae (bu oV eo) (ae (bF 1 da) (ae (cF dm F bM F F (a6 Io) (by show _<4;decide)) (ae (dD eO F F Io (show _=some (Value.int .i64 ((b.start.toNat:Nat):Int)) by rw[cW vb.s0];rfl)) (TO.lc Nt (n8 [2] (TS base b.next.length sb c cv l b.start.toNat MD Kn (ez vb.toVal) (by have:=fA (MD.imp fun h=>Nat.ne_of_lt h) Kn;have:=vb.n4;omega))) ?_))))
  rintro vr O' ⟨A1,rfl,wb,wc,Z8,rfl,rfl⟩
  refine ae (bu oV eo) (ax (c8 [(.slice wb ((Cr b.next.length l b.start.toNat).length) wc)] 2 eo ?_))
  refine bi (aG (eR 2 oV mJ) (ax (c8 [vI ((s:Nat):Int),(.slice wb ((Cr b.next.length l b.start.toNat).length) wc)] 1 mJ ?_)))
  refine dP ?_
  refine cQ (i:=1) results153 oV F mJ F F F ?_
  exact⟨[az wb Z8 3 1 (cm (Cr b.next.length l b.start.toNat))],(by exact Sub.k .z),wb,wc,Z8,by unfold xa;rw[aB hc];rfl,by unfold xa;rw[aB hc]⟩
 refine aE (aG (eR 1 oV mJ) (ax (c8 [vI ((s:Nat):Int),(.slice sb l.length cv)] 0 mJ ?_)))
 refine dP ?_
 refine cQ (i:=0) results153 oV F mJ F F F ?_
 exact⟨[az sb c 3 1 (cm l)],(by exact Sub.d (.d (.k .z))),sb,cv,c,by unfold xa;rw[aq (by rw[hc];simp)];rfl,by unfold xa;rw[aq (by rw[hc];simp)]⟩
theorem RN (w:World) [dQ prog w] (s:Nat) (hs:s<4096) (sb:Option Addr) (c:Nat) (l:List Nat) (hS:Sl w sb (cm l)) (hl: ∀t∈l,t<4096) (Kn:l.length≤4096):
  cB prog 155 [.agg #[vI ((s:Nat):Int),.slice sb l.length c]] w fun v N=>v=str (Bw (s,l))∧N=[]:=by
 refine aA func155 F ntmps155 F ?_
 let eH:List Value:=[vI ((s:Nat):Int),(.slice sb l.length c)]
 refine aQ (ax (ef eH (fun z1=>?_)))
 refine aj (br ?_)
 refine fW [(0,0),(1,0),(4,0),(5,0),(2,1),(3,1),(6,2),(7,2),(8,2)] ?_
 refine ap F (bu oV bM) (ap F (bF 0 eO) (ap F (bu oV eo) (ap F (bF 0 da) ?_)))
 refine cG F F (dL (v:=vI ((s:Nat):Int)) da bM F F F (fun z2=>⟨by exact Sub.d (.k .z),?_⟩))
 refine cG F F (eh we (aO fun w1 hI=>(haveI:=eP hI;Im w1 (aD z2) 1 [(s:Int)] (hI.ij (mG 0)) (fun n hn=>by simp at hn;subst hn;exact oq (by omega)) (by simp))) ?_)
 rintro vr O' ⟨N,rfl,jb,jc,rfl,rfl⟩
 refine⟨by exact Sub.d (.d (.k .z)),?_⟩
 have rI:=cx.under (A:=[az jb jc 5 1 (dy (jw [(s:Int)]))]) (B:=[bJ z2 1 3 1 [vI ((s:Nat):Int)],oI z1 208 eH]) (O:=[az jb jc 5 1 (dy (jw [(s:Int)])),bJ z2 1 3 1 [vI ((s:Nat):Int)],oI z1 208 eH]) (show cx _ _ _ _ _ (fun v O'=> ∃b' c',v=.slice b' (Bw (s,l)).length c'∧O'=[az b' c' 5 1 (dy (Bw (s,l)))])from by
   have h9:=TP w jb sb jc (jw [(s:Int)]).length c (jw [(s:Int)]) (l.map fun y:Nat=>(y:Int)) F (by rw[gN];exact hS) (fun n hn=>by obtain⟨y,hy,rfl⟩:=List.mem_map.1 hn;exact oq (by have:=hl y hy;omega)) (by rw[ai];have:=qu (l:=[(s:Int)]) (fun n hn=>by simp at hn;subst hn;exact oq (by omega));simp only[bQ,dx]at this;omega)
   rw[ai,←aJ,←tW]at h9
   exact h9) (by exact Sub.rf)
 refine cA F F (eh we rI ?_)
 clear rI
 rintro vr O' ⟨A1,rfl,VY,jc2,rfl,rfl⟩
 refine cA F F (eV F F (DA (l:=Bw (s,l)) kR wZ il F (mG 0) F) ?_)
 refine cA F F (eV F F cz ?_)
 refine cy ?_
 refine cM (dS ?_)
 refine aF (str (Bw (s,l))) results155 F ?_
 exact⟨[],Sub.z,F,F⟩
theorem Nu (w:World) [dQ prog w] (a:c_) (ka:DK) (ha:At w a ka) (va:Valid a) (za:Nat) (u9:Sl w (aD za) (dC a ka)) (b:c_) (kb:DK) (hb:At w b kb) (vb:Valid b) (zb:Nat) (Io:Sl w (aD zb) (dC b kb)) (AJ:a.vars=b.vars) (zf:Nat) (Z9:Sl w (aD zf) [(.func (.func 153) #[] #[(eJ za 0),(eJ zb 0)])]) (s:Nat) (hs:s<a.next.length) (sb:Option Addr) (c:Nat) (l:List Nat) (hS:Sl w sb (cm l)) (MD:l.Pairwise (· < ·)) (hl: ∀t∈l,t<b.next.length) (x:Nat) (hx:x<eE a):
  cB prog 156 [.agg #[vI ((s:Nat):Int),.slice sb l.length c],v8 x,(eJ zf 0),(eJ za 0),(eJ zb 0)] w fun v N=> ∃b' c' c2,v=.agg #[vI ((fm a s x:Nat):Int),.slice b' (xa a b (fm a s x) (gw b l x)).length c']∧N=[az b' c2 3 1 (cm (xa a b (fm a s x) (gw b l x)))]:=by
 refine aA func156 F ntmps156 F ?_
 have Qe:=ha.rows.1
 obtain⟨v1,c1,g1,s1⟩:=ha.rows.get hs
 have Nf:a.next[s].length=eE a:=va.len _ (av hs)
 have Gi:x<a.next[s].length:=by rw[Nf];exact hx
 have Yq:x<eE b:=by unfold eE at hx⊢;rw[←AJ];exact hx
 have Kn:=fA (MD.imp fun h=>Nat.ne_of_lt h) hl
 have hb4:=vb.n4
 have Qr:=ot b l x
 refine aQ (ax (ef [vI ((s:Nat):Int),(.slice sb l.length c)] (fun z1=>?_)))
 refine ax (b_ mJ (fun z2=>?_))
 refine dJ ?_
 refine T.ds [oI z2 208 [(vI 0),nS],oI z1 208 [vI ((s:Nat):Int),(.slice sb l.length c)]] [(0,0),(1,0),(2,0),(3,0),(4,0),(5,0),(6,0),(7,0),(8,0),(9,0),(10,0),(11,0),(12,0),(13,0),(14,1),(15,0),(16,2),(17,2)] (by exact Sub.rf) ?_
 refine ap F (dD TX F F Z9 F) (ap F (cF dm F fx F F (a6 u9) (by show _<4;decide)) (ap F (dD eY F F u9 F) (ap F (bu oV bM) (ap F (bF 1 eO) (ap F (dB s eY eo F F (a6 ha.outer) hs (Qe▸hs)) (ap F (dD da F F ha.outer g1) (ap F aw ?_)))))))
 refine ap F (dB x da bM F F (a6 s1) Gi (by rw[ai];exact Gi)) (ap F (dD eO F F s1 (ym va hs hx)) (ap F (fy ((dC b kb)) dm F bY F F (bK _) (a6 Io) (fun j hj=>by rw[Nat.zero_add];exact ak hj)) (ap F (bu oV eo) ?_)))
 refine ap F (bF 1 da) (ap F aw ?_)
 refine cG F F (eh Nv (aO fun w1 hI=>(haveI:=eP hI;TQ w1 b kb (hI.sE hb) vb sb c l (hI.sl hS) hl (by omega) x Yq)) ?_)
 rintro vr O' ⟨N,rfl,tb,tc,rfl,rfl⟩
 refine⟨by exact Sub.d (.k (.k .z)),?_⟩
 refine ap F (dc [vI ((fm a s x:Nat):Int),(.slice tb ((gw b l x).length) tc)] Ip mJ (by kernel_rfl)) ?_
 have zi:=cZ (first:=[]) (args:=[.agg #[vI ((fm a s x:Nat):Int),.slice tb (gw b l x).length tc]]) (gU:=[(eJ za 0),(eJ zb 0)]) Nw (cx.under (A:=[az tb tc 3 1 (cm (gw b l x))]) (B:=[oI z2 208 [(vI 0),nS],oI z1 208 [vI ((s:Nat):Int),(.slice sb l.length c)]]) (O:=[az tb tc 3 1 (cm (gw b l x)),oI z2 208 [(vI 0),nS],oI z1 208 [vI ((s:Nat):Int),(.slice sb l.length c)]]) (Ns w a ka ha va za u9 b kb hb vb zb Io (fm a s x) (va.iw hs hx).1 tb tc tc (gw b l x) Qr.1 Qr.2) (by exact Sub.rf))
 refine cA F F (fT zi F F ?_)
 clear zi
 rintro vr O' ⟨A1,rfl,eb,ec,ec2,rfl,rfl⟩
 refine cA F F (c8 [vI ((fm a s x:Nat):Int),(.slice eb ((xa a b (fm a s x) (gw b l x)).length) ec)] 1 mJ ?_)
 refine cy ?_
 refine cM (dS ?_)
 refine cQ (i:=1) results156 oV F mJ F F F ?_
 exact⟨[az eb ec2 3 1 (cm (xa a b (fm a s x) (gw b l x)))],(by exact Sub.k .z),eb,ec,ec2,F,F⟩
theorem RP (w:World) [dQ prog w] (b:c_) (kb:DK) (hb:At w b kb) (vb:Valid b) (zb:Nat) (Io:Sl w (aD zb) (dC b kb)) (s:Nat) (sb:Option Addr) (c:Nat) (l:List Nat) (hS:Sl w sb (cm l)) (hl: ∀t∈l,t<b.next.length) (Kn:l.length≤4096):
  cB prog 157 [.agg #[vI ((s:Nat):Int),.slice sb l.length c],(eJ zb 0)] w fun v N=>v=.bool (VZ b (s,l))∧N=[]:=by
 refine aA func157 F ntmps157 F ?_
 refine aQ (ax (ef [vI ((s:Nat):Int),(.slice sb l.length c)] (fun z1=>?_)))
 refine aj (aQ ?_)
 refine ae (fy ((dC b kb)) dm F bY F F (bK _) (a6 Io) (fun j hj=>by rw[Nat.zero_add];exact ak hj)) (ae (bu oV eo) (ae (bF 0 da) ?_))
 refine TO.lc Cv (aO fun w1 hI=>(haveI:=eP hI;xY w1 b kb (hI.sE hb) vb sb c l (hI.sl hS) hl (by omega))) ?_
 rintro vr O' ⟨N,rfl,rfl,rfl⟩
 refine aR ?_
 refine aF (.bool (l.any (dR b))) results157 F ?_
 exact⟨[],Sub.z,F,F⟩
theorem Eu {b:Bool} {i:Int} (h:(b=false∧i= -1)∨ ∃k:Nat,i=(k:Int)∧b=true):decide (i≥0)=b:=by
 rcases h with⟨rfl,rfl⟩|⟨k,rfl,rfl⟩
 ·decide
 ·exact aZ (by omega)
theorem Ev (base:World) [dQ prog base] (b:Option Addr) (c:Nat) (xs:List CR) (hS:Sl base b (dK xs)) (hb:xs.length<4611686018427387904) (fv:Value) (p:CR→Bool) (hy: ∀x∈xs,fh prog base fv [(.agg #[vI x.k,vN x.s,(.slice x.r.b x.r.o.length x.r.c)])] [] (fun v O'=>v=.bool (p x)∧O'=[])):
  cx prog base 167 [.slice b xs.length c,fv] [] (fun v O'=> ∃i:Int,v=vI i∧((xs.any p=false∧i= -1)∨ ∃k:Nat,i=(k:Int)∧xs.any p=true)∧O'=[]):=by
 refine aA func167 F ntmps167 F ?_
 refine aQ (aS (bq (ay (cL oW) (bH (aK ?_)))))
 refine dU (fun(k:Nat) ρ O=>O=[]∧k≤xs.length∧(xs.take k).any p=false∧dh [(0,(.slice b xs.length c)),(1,fv),(7,vI (xs.length:Int)),(8,vI (k:Int))] ρ) (fun k=>xs.length-k) 0 ?_ ?_
 ·exact⟨F,bj _,F,⟨F,F,F,F,trivial⟩⟩
 rintro k ρ O ⟨rfl,hk,iO,hH⟩
 obtain⟨gv,rfl⟩:=hH.elim
 clear hH
 refine aG cV (dJ (aL F (fun hc=>?_) (fun hc=>?_)))
 ·have lQ:k<xs.length:=by omega
  refine aE (br (aK (a7 (aj (a7 (aN (ay (eF (i:=k) oW jY F F (a6 hS) lQ (by rw[qw];omega)) (ae (fy [vI xs[k].k,vN (xs[k].s),(.slice xs[k].r.b xs[k].r.o.length xs[k].r.c)] mv F jY F F (bK _) (a6 hS) (tZ lQ)) ?_))))))))
  have rP:=hy xs[k] (av lQ)
  refine ax (fT rP F F ?_)
  clear rP
  rintro vr O' ⟨rfl,rfl⟩
  refine bi (T.cond F (fun hc=>?_) (fun hc=>?_))
  ·refine br ?_
   refine a_ (aN (aR ?_))
   refine aF (vI (k:Int)) results167 F ?_
   exact⟨[],Sub.z,k,F,.inr ⟨k,F,Cq lQ hc⟩,F⟩
  refine aE (a_ (ae (dj (b:=1) k F F (by omega)) (bH ?_)))
  exact⟨k+1,by omega,F,by omega,sM lQ iO hc,⟨F,F,F,F,trivial⟩⟩
 have Nd: ¬k<xs.length:=by omega
 refine cD ?_
 refine aQ (aR ?_)
 refine aF (vI (-1)) results167 F ?_
 exact⟨[],Sub.z, -1,F,.inl ⟨by rw[bt (by omega)]at iO;exact iO,F⟩,F⟩
theorem rX (base:World) [dQ prog base] (b:Option Addr) (c:Nat) (xs:List CR) (hS:Sl base b (dK xs)) (hb:xs.length<4611686018427387904) (fv:Value) (p:CR→Bool) (hy: ∀x∈xs,fh prog base fv [(.agg #[vI x.k,vN x.s,(.slice x.r.b x.r.o.length x.r.c)])] [] (fun v O'=>v=.bool (p x)∧O'=[])):
  cx prog base 116 [.slice b xs.length c,fv] [] (fun v O'=>v=.bool (xs.any p)∧O'=[]):=by
 refine aA func116 F ntmps116 F ?_
 refine aQ (aj (a7 (aN ?_)))
 have Eb:=Ev base b c xs hS hb fv p hy
 refine TO.lc Wo Eb ?_
 clear Eb
 rintro v O' ⟨i,rfl,hi,rfl⟩
 refine ae km (aR ?_)
 refine aF (.bool (decide (i≥0))) results116 F ?_
 exact⟨[],Sub.z,am Value.bool (Eu hi),F⟩
theorem CB (base:World) [dQ prog base] (b:Option Addr) (c:Nat) (xs:List ei) (hS:Sl base b (bX xs)) (hb:xs.length<4611686018427387904) (fv:Value) (p:ei→Bool) (hy: ∀x∈xs,fh prog base fv [x.ag] [] (fun v O'=>v=.bool (p x)∧O'=[])):
  cx prog base 100 [.slice b xs.length c,fv] [] (fun v O'=> ∃i:Int,v=vI i∧((xs.any p=false∧i= -1)∨ ∃k:Nat,i=(k:Int)∧xs.any p=true)∧O'=[]):=by
 refine aA func100 F ntmps100 F ?_
 refine aQ (aS (bq (ay (cL dX) (bH (aK ?_)))))
 refine dU (fun(k:Nat) ρ O=>O=[]∧k≤xs.length∧(xs.take k).any p=false∧dh [(0,(.slice b xs.length c)),(1,fv),(7,vI (xs.length:Int)),(8,vI (k:Int))] ρ) (fun k=>xs.length-k) 0 ?_ ?_
 ·exact⟨F,bj _,F,⟨F,F,F,F,trivial⟩⟩
 rintro k ρ O ⟨rfl,hk,iO,hH⟩
 obtain⟨gv,rfl⟩:=hH.elim
 clear hH
 refine aG cV (dJ (aL F (fun hc=>?_) (fun hc=>?_)))
 ·have lQ:k<xs.length:=by omega
  refine aE (br (aK (a7 (aj (a7 (aN (ay (eF (i:=k) dX cR F F (a6 hS) lQ (by rw[cE];omega)) (ae (fy (xs[k].cl) dz F cR F F (bK _) (a6 hS) (lA lQ)) ?_))))))))
  have rP:=hy xs[k] (av lQ)
  refine ax (fT rP F F ?_)
  clear rP
  rintro vr O' ⟨rfl,rfl⟩
  refine bi (T.cond F (fun hc=>?_) (fun hc=>?_))
  ·refine br ?_
   refine a_ (aN (aR ?_))
   refine aF (vI (k:Int)) results100 F ?_
   exact⟨[],Sub.z,k,F,.inr ⟨k,F,Cq lQ hc⟩,F⟩
  refine aE (a_ (ae (dj (b:=1) k F F (by omega)) (bH ?_)))
  exact⟨k+1,by omega,F,by omega,sM lQ iO hc,⟨F,F,F,F,trivial⟩⟩
 have Nd: ¬k<xs.length:=by omega
 refine cD ?_
 refine aQ (aR ?_)
 refine aF (vI (-1)) results100 F ?_
 exact⟨[],Sub.z, -1,F,.inl ⟨by rw[bt (by omega)]at iO;exact iO,F⟩,F⟩
theorem qO (base:World) [dQ prog base] (b:Option Addr) (c:Nat) (xs:List ei) (hS:Sl base b (bX xs)) (hb:xs.length<4611686018427387904) (fv:Value) (p:ei→Bool) (hy: ∀x∈xs,fh prog base fv [x.ag] [] (fun v O'=>v=.bool (p x)∧O'=[])):
  cx prog base 70 [.slice b xs.length c,fv] [] (fun v O'=>v=.bool (xs.any p)∧O'=[]):=by
 refine aA func70 F ntmps70 F ?_
 refine aQ (aj (a7 (aN ?_)))
 have Eb:=CB base b c xs hS hb fv p hy
 refine TO.lc Wp Eb ?_
 clear Eb
 rintro v O' ⟨i,rfl,hi,rfl⟩
 refine ae km (aR ?_)
 refine aF (.bool (decide (i≥0))) results70 F ?_
 exact⟨[],Sub.z,am Value.bool (Eu hi),F⟩
theorem aat (base:World) [dQ prog base] (b lb:Option Addr) (c m lc lv:Nat) (xs:List UInt8) (l:List Int) (hx:xs.length=m) (hn: ∀n∈l,nH n) (hm:m+13*l.length≤800000):
  cx prog base 112 [.slice b m c,.slice lb l.length lv] [az b c 5 1 (dy xs),az lb lc 3 1 (ints l)] (fun v O'=> ∃b' c',v=.slice b' (m+(jw l).length) c'∧O'=[az b' c' 5 1 (dy (xs++jw l)),az lb lc 3 1 (ints l)]):=by
 refine aA func112 F ntmps112 F ?_
 refine aQ (aS (bq (ay (cL da) (bH (aK ?_)))))
 refine ep (fun(i:Nat) ρ O=> ∃(jb:Option Addr) (jc:Nat),O=[az jb jc 5 1 (dy (xs++jw (l.take i))),az lb lc 3 1 (ints l)]∧i≤l.length∧dh [(0,(.slice jb (m+(jw (l.take i)).length) jc)),(1,(.slice lb l.length lv)),(4,nS),(7,(.slice lb l.length lv)),(8,vI (l.length:Int)),(9,vN i)] ρ) (fun i=>l.length-i) 0 ?_ ?_
 ·exact⟨b,c,by simp[jw],bj _,⟨(by show Value.slice b m c=_;simp[jw]),F,F,F,F,F,trivial⟩⟩
 rintro i ρ O ⟨jb,jc,rfl,hi,hH⟩
 obtain⟨gv,rfl⟩:=hH.elim
 clear hH
 have Ic:=qu (l:=l.take i) fun n h=>hn n (List.mem_of_mem_take h)
 have gQ:=List.length_take_le i l
 refine aG cV (dJ (aL F (fun hc=>?_) (fun hc=>?_)))
 ·have mu:i<l.length:=by omega
  have hdl:=rO (hn _ (av mu))
  refine aE (br (aK (aG (dB i da bM F F (eA 1) mu (by rw[ai];exact mu)) (ae (iN eO F F (eA 1) (gL mu)) (aj (a_ (de (TO.lc Co (n8 [0] (ZZ base jb jc (m+(jw (l.take i)).length) (xs++jw (l.take i)) l[i] (by simp[hx]) (hn _ (av mu)) (by omega))) ?_))))))))
  rintro vr O' ⟨A1,rfl,b2,c2,rfl,rfl⟩
  refine ax (dL (v:=.int .u8 32) kR eN F F F (fun om=>?_))
  refine ax (dE 1 kR kR eN F F F F (by simp[hx,Nat.add_assoc]) (by decide) (Src.row (j:=0) F (by simp)) (by simp[fS]) (by have:=rO (hn _ (av mu));omega) (by decide) (by decide) (fun y9 c3=>?_))
  refine aj (a_ (ae (dj (b:=1) i F F (by omega)) (bH ?_)))
  have e9:=Ea mu
  exact⟨i+1,by omega,[az y9 c3 5 1 ((dy (xs++jw (l.take i)++lB l[i]))++[.int .u8 32]),az lb lc 3 1 (ints l)],(by exact Sub.d (.k (.k .z))),y9,c3,by rw[e9,←aV,←aV,show dy (xs++jw (l.take i)++lB l[i]++[32])=dy (xs++jw (l.take i)++lB l[i])++[Value.int .u8 32]from bm],by omega,⟨(am (fun n9=>Value.slice y9 n9 c3) (show m+(jw (l.take i)).length+(lB l[i]).length+1=m+(jw (l.take (i+1))).length by rw[e9];simp only[aJ,bQ,dx,Nat.add_assoc])),F,F,F,F,F,trivial⟩⟩
 have w6: ¬i<l.length:=by omega
 refine cD ?_
 refine a7 (aj (cM ?_))
 refine aF (.slice jb (m+(jw (l.take i)).length) jc) results112 F ?_
 have xF:i=l.length:=by omega
 subst xF
 rw[List.take_length]
 exact⟨jb,jc,F,F⟩
theorem GX (w:World) [dQ prog w] (k:Int) (s:Nat) (r:OB) (hr:Sl w r.b (fY r.o)) (hn: ∀n∈k::(s:Int)::t_ r.o,nH n) (hl:r.o.length≤64):
  cB prog 110 [.agg #[vI k,vN s,.slice r.b r.o.length r.c]] w fun v N=>v=str (jw (k::(s:Int)::t_ r.o))∧N=[]:=by
 refine aA func110 F ntmps110 F ?_
 refine aQ (ax (ef [vI k,vN s,(.slice r.b r.o.length r.c)] (fun z1=>?_)))
 refine aj (aG (bu mv bM) (ae (bF 0 eO) (ae (bu mv bM) (ae (bF 0 eO) (ax (cP (m:=2) (parts:=[(0,.tmp 7),(1,.tmp 9)]) (cs:=[vI k,vN s]) da bM (by decide) (by kernel_rfl) F (fun z2=>?_)))))))
 refine TO.lc we (aO fun w1 hI=>(haveI:=eP hI;Im w1 (aD z2) 2 [k,(s:Int)] (hI.ij (mG 0)) (fun n h9=>hn n (by simp only[dt,List.not_mem_nil,or_false]at h9⊢;rcases h9 with h9|h9<;>simp[h9])) (by simp))) ?_
 rintro vr O' ⟨N,rfl,jb,jc,rfl,rfl⟩
 refine aS (bq (ae (bu mv CC) (ae (bF 2 kq) (ae (cL kq) (bH (aK ?_))))))
 refine ep (fun(i:Nat) ρ O=> ∃(jb:Option Addr) (jc:Nat),O=[az jb jc 5 1 (dy (jw (k::(s:Int)::t_ (r.o.take i)))),bJ z2 2 3 1 [vI k,vN s],oI z1 169 [vI k,vN s,(.slice r.b r.o.length r.c)]]∧i≤r.o.length∧dh [(0,(.agg #[vI k,vN s,(.slice r.b r.o.length r.c)])),(1,(.pointer (aD z1))),(2,(str [])),(3,(.slice jb ((jw (k::(s:Int)::t_ (r.o.take i))).length) jc)),(13,(.slice r.b r.o.length r.c)),(14,vI (r.o.length:Int)),(15,vN i)] ρ) (fun i=>r.o.length-i) 0 ?_ ?_
 ·exact⟨jb,jc,F,bj _,(.of F)⟩
 rintro i ρ O ⟨jb,jc,rfl,hi,hH⟩
 obtain⟨gv,rfl⟩:=hH.elim
 clear hH
 have Mm: ∀n∈k::(s:Int)::t_ (r.o.take i),nH n:=fun n hn9=>hn n (by
  simp only[dt]at hn9⊢
  rcases hn9 with h9|h9|h9
  ·exact .inl h9
  ·exact .inr (.inl h9)
  ·exact .inr (.inr (by obtain⟨p,hp,h8⟩:=List.mem_flatMap.1 h9;exact List.mem_flatMap.2 ⟨p,List.mem_of_mem_take hp,h8⟩)))
 have Ic:=qu Mm
 have Wq:(t_ (r.o.take i)).length≤128:=by rw[Is,db];omega
 simp only[bQ]at Ic
 refine aG cV (dJ (aL F (fun hc=>?_) (fun hc=>?_)))
 ·have yp:i<r.o.length:=by omega
  refine aE (br (aK (aG (eF (i:=i) kq iu F F (a6 hr) yp (by rw[kJ];omega)) (ae (fy [vN (r.o[i].1),vN (r.o[i].2)] ll F iu F F (bK _) (a6 hr) (ou yp)) (ax (b_ iu (fun z3=>?_)))))))
  refine ax (c8 [vN (r.o[i].1),vN (r.o[i].2)] 0 iu ?_)
  refine bi (a_ (ay (kn (i:=0) ll bM F F (by decide)) (ae (bF 0 eO) (ae (kn (i:=1) ll bM F F (by decide)) (ae (bF 0 eO) (ax (cP (m:=2) (parts:=[(0,.tmp 21),(1,.tmp 23)]) (cs:=[vN (r.o[i].1),vN (r.o[i].2)]) da bM (by decide) (by kernel_rfl) F (fun z4=>?_))))))))
  have rS:=cx.under (A:=[az jb jc 5 1 (dy (jw (k::(s:Int)::t_ (r.o.take i)))),bJ z4 2 3 1 [vN (r.o[i].1),vN (r.o[i].2)]]) (B:=[oI z3 173 [vN (r.o[i].1),vN (r.o[i].2)],bJ z2 2 3 1 [vI k,vN s],oI z1 169 [vI k,vN s,(.slice r.b r.o.length r.c)]]) (O:=[bJ z4 2 3 1 [vN (r.o[i].1),vN (r.o[i].2)],oI z3 173 [vN (r.o[i].1),vN (r.o[i].2)],az jb jc 5 1 (dy (jw (k::(s:Int)::t_ (r.o.take i)))),bJ z2 2 3 1 [vI k,vN s],oI z1 169 [vI k,vN s,(.slice r.b r.o.length r.c)]]) (show cx _ _ _ _ _ (fun v O'=> ∃b' c',v=.slice b' (jw (k::(s:Int)::t_ (r.o.take i))++jw [(r.o[i].1:Int),(r.o[i].2:Int)]).length c'∧O'=[az b' c' 5 1 (dy (jw (k::(s:Int)::t_ (r.o.take i))++jw [(r.o[i].1:Int),(r.o[i].2:Int)])),bJ z4 2 3 1 [vN (r.o[i].1),vN (r.o[i].2)]])from by
    have h9:=aat w jb (aD z4) jc (jw (k::(s:Int)::t_ (r.o.take i))).length 2 2 (jw (k::(s:Int)::t_ (r.o.take i))) [(r.o[i].1:Int),(r.o[i].2:Int)] F (fun n h9=>hn n (by
     have h8:n∈t_ r.o:=List.mem_flatMap.2 ⟨r.o[i],av yp,h9⟩
     exact List.mem_cons_of_mem _ (List.mem_cons_of_mem _ h8))) (by simp only[bQ,dx];omega)
    rw[aJ]
    exact h9) (by exact Sub.fz [bJ z4 2 3 1 [vN (r.o[i].1),vN (r.o[i].2)],oI z3 173 [vN (r.o[i].1),vN (r.o[i].2)]] _ (.k (.k (.k (.k .z)))))
  refine TO.lc we rS ?_
  clear rS
  rintro vr O' ⟨A1,rfl,VY,jc2,rfl,rfl⟩
  refine aj (a_ (ae (dj (b:=1) i F F (by omega)) (bH ?_)))
  have e9:jw (k::(s:Int)::t_ (r.o.take (i+1)))=jw (k::(s:Int)::t_ (r.o.take i))++jw [(r.o[i].1:Int),(r.o[i].2:Int)]:=by rw[aC yp,NZ,←cN,←cN,tW]
  exact⟨i+1,by omega,[az VY jc2 5 1 (dy (jw (k::(s:Int)::t_ (r.o.take i))++jw [(r.o[i].1:Int),(r.o[i].2:Int)])),bJ z2 2 3 1 [vI k,vN s],oI z1 169 [vI k,vN s,(.slice r.b r.o.length r.c)]],(by exact Sub.k (.d (.d (.k (.k .z))))),VY,jc2,by rw[e9],by omega,⟨F,F,F,(am (fun n9:Nat=>Value.slice VY n9 jc2) (by rw[e9,aJ])),F,F,F,trivial⟩⟩
 have AX: ¬i<r.o.length:=by omega
 refine cD ?_
 refine bo (DA (l:=jw (k::(s:Int)::t_ (r.o.take i))) kR wZ il F (mG 0) F) (aR ?_)
 refine aF (str (jw (k::(s:Int)::t_ (r.o.take i)))) results110 F ?_
 have xF:i=r.o.length:=by omega
 subst xF
 rw[List.take_length]
 exact⟨[],Sub.z,F,F⟩
theorem aav (w:World) [dQ prog w] (x y:CR) (zx:Nat) (hzx:Sl w (aD zx) x.cells) (hx:Sl w x.r.b (fY x.r.o)) (Qt: ∀n∈x.cf.nums,nH n) (hlx:x.r.o.length≤64) (hy:Sl w y.r.b (fY y.r.o)) (hny: ∀n∈y.cf.nums,nH n) (hly:y.r.o.length≤64):
  cB prog 166 [.agg y.cells.toArray,(eJ zx 0)] w fun v N=>v=.bool (decide (y.cf.key=x.cf.key))∧N=[]:=by
 refine aA func166 F ntmps166 F ?_
 refine aQ (ax (ef [vI y.k,vN y.s,(.slice y.r.b y.r.o.length y.r.c)] (fun om=>?_)))
 refine aj (br ?_)
 refine fW [(0,0),(2,0),(1,1),(3,2),(4,2),(5,2)] ?_
 refine ap F (eR 0 mv jY) (ap F (fy [vI x.k,vN x.s,(.slice x.r.b x.r.o.length x.r.c)] mv F jY F F (bK _) (a6 hzx) (fun j hj=>by rw[Nat.zero_add];exact ak hj)) ?_)
 refine cG F F (eh GY (aO fun w1 hI=>(haveI:=eP hI;GX w1 y.k y.s y.r (hI.sl hy) hny hly)) ?_)
 rintro vr O' ⟨N,rfl,rfl,rfl⟩
 refine⟨by exact Sub.rf,?_⟩
 refine cA F F (eh GY (aO fun w1 hI=>(haveI:=eP hI;GX w1 x.k x.s x.r (hI.sl hx) Qt hlx)) ?_)
 rintro vr O' ⟨N,rfl,rfl,rfl⟩
 refine cA F F (eV F F (N0 F F) ?_)
 refine cA F F (eV F F cz ?_)
 refine cy ?_
 refine cM (dS ?_)
 refine aF (.bool (decide (y.cf.key=x.cf.key))) results166 F ?_
 exact⟨[],Sub.z,F,F⟩
theorem N1 {ls:List Lf} {vs:Nat} (hG:iW ls vs) {l:List CR} {x:CR} (hl: ∀y∈l,jT ls y.cf) (hx:jT ls x.cf):(l.any fun y=>decide (y.cf.key=x.cf.key))=decide (x.cf∈l.map CR.cf):=by
 by_cases h:x.cf∈l.map CR.cf
 ·rw[aZ h]
  obtain⟨y,hy,e⟩:=List.mem_map.1 h
  exact List.any_eq_true.2 ⟨y,hy,aZ (by rw[e])⟩
 ·rw[a8 h,List.any_eq_false]
  intro y hy h9
  exact h (List.mem_map.2 ⟨y,hy,key_inj hG (hl y hy) hx (of_decide_eq_true h9)⟩)
theorem aep (base:World) [dQ prog base] {ls:List Lf} {vs:Nat} (hG:iW ls vs) (ov:Value) (zs:Nat) (bh:Value) (cb:Option Addr) (cc:Nat) (l:List CR) (p:List OB) (x:CR) (hl: ∀y∈l,jT ls y.cf) (hp: ∀y∈l,nf p y.r) (hx:jT ls x.cf) (Qu:nf p x.r) (hK:l.length<1099511627776):
  cx prog base 114 [ov,(.pointer (aD zs)),(.agg #[vI x.k,vN x.s,(.slice x.r.b x.r.o.length x.r.c)])] ([oI zs 122 [bh,(.slice cb l.length cc)],az cb cc 169 3 (dK l)]++gG 173 p) (fun v O'=> ∃wg wh,v=.tuple #[]∧O'=[oI zs 122 [bh,(.slice wg ((AK l x).length) wh)],az wg wh 169 3 (dK (AK l x))]++gG 173 p):=by
 refine aA func114 F ntmps114 F ?_
 refine aQ (ax (ef [vI x.k,vN x.s,(.slice x.r.b x.r.o.length x.r.c)] (fun z1=>?_)))
 refine bi (aG (fI) (aj (bo bg (ae (bu m_ rY) (ae (bF 1 oW) (aN ?_))))))
 have Ew:=fun(w1:World) (hI:Inv base ([oI z1 169 [vI x.k,vN x.s,(.slice x.r.b x.r.o.length x.r.c)],oI zs 122 [bh,(.slice cb l.length cc)],az cb cc 169 3 (dK l)]++(gG 173 p)) w1)=>(haveI:=eP hI;(show cB _ _ _ _ (fun v N=>v=Value.bool (decide (x.cf∈l.map CR.cf))∧N=[])from by
   have h9:=rX w1 cb cc l (hI.ij (mG 2)) (by omega) ((.func (.func 166) #[] #[(eJ z1 0)])) (fun y=>decide (y.cf.key=x.cf.key)) (fun y hy=>cZ (first:=[]) (args:=[(.agg #[vI y.k,vN y.s,(.slice y.r.b y.r.o.length y.r.c)])]) (gU:=[(eJ z1 0)]) Wr (aav w1 x y z1 (hI.lj (mG 0)) (nf.sl (T:=173) hI (fun it gf=>ah _ gf) Qu) (hx.num hG) (hx.Ws hG) (nf.sl (T:=173) hI (fun it gf=>ah _ gf) (hp y hy)) ((hl y hy).num hG) ((hl y hy).Ws hG)))
   rw[N1 hG hl hx]at h9
   exact h9))
 refine TO.lc N2 (aO Ew) ?_
 clear Ew
 rintro vr O' ⟨N,rfl,rfl,rfl⟩
 refine aX g_ (T.cond F (fun hc=>?_) (fun hc=>?_))
 ·refine T.ds [oI z1 169 [vI x.k,vN x.s,(.slice x.r.b x.r.o.length x.r.c)],oI zs 122 [bh,(.slice cb l.length cc)]] [(0,0),(1,0),(2,0),(3,0),(4,0),(5,0),(6,1),(7,1),(8,0),(9,0),(10,2)] (by exact Sub.k (.k .z)) ?_
  refine ap F aw (ap F aw (ap F bg (ap F (bu m_ rY) (ap F (bF 1 oW) (ap F (eR 0 mv jY) ?_)))))
  refine cG F F (cP (m:=1) (parts:=[(0,_)]) (cs:=[vI x.k,vN x.s,(.slice x.r.b x.r.o.length x.r.c)]) oW jY (by decide) (by kernel_rfl) F (fun z2=>⟨by exact Sub.d (.k (.k .z)),?_⟩))
  refine cG F F (dE 3 oW oW jY F F F F (by rw[qw]) (by decide) (Src.row (j:=0) F (by simp)) (by simp[fS]) (by omega) (by decide) (by decide) (fun z3 pg=>⟨by exact Sub.d (.k (.k .z)),?_⟩))
  refine ap F bg (ap F (bu m_ rY) ?_)
  refine cA F F (c8 [(.slice z3 (l.length+1) pg)] 2 rY ?_)
  refine cy ?_
  refine dS ?_
  refine qS.zero results114 ?_
  have e9:AK l x=l++[x]:=aq (by simpa using hc)
  exact⟨[oI zs 122 [bh,(.slice z3 (l.length+1) pg)],az z3 pg 169 3 ((dK l)++[vI x.k,vN x.s,(.slice x.r.b x.r.o.length x.r.c)])]++gG 173 p,(by exact Sub.d (.d (.k (.k .rf)))),z3,pg,F,by rw[e9,Ex,aJ];rfl⟩
 refine aE (dS ?_)
 refine qS.zero results114 ?_
 have e9:AK l x=l:=aB (by simpa using hc)
 exact⟨[oI zs 122 [bh,(.slice cb l.length cc)],az cb cc 169 3 (dK l)]++gG 173 p,(by exact Sub.d (.k (.k .rf))),cb,cc,F,by rw[e9]⟩
theorem aax (w:World) [dQ prog w] (a:Int):
  cB prog 240 [vI a] w fun v N=>v=.bool false∧N=[]:=by
 refine aA func240 F ntmps240 F ?_
 refine aQ (aj (a7 (ay (cg d_ (v':=.bool false) (by simp)) (aR ?_))))
 refine aF (.bool false) results240 F ?_
 exact⟨[],Sub.z,F,F⟩
theorem gtC (w:World) [dQ prog w] (a b:Int) (h:b<a):
  cB prog 213 [vI a,vI b] w fun v N=>v=vI 1∧N=[]:=by
 refine aA func213 F ntmps213 F ?_
 refine aQ (aj (a7 (TO.lc N3 (aO fun w1 hI=>(haveI:=eP hI;aax w1 a)) ?_)))
 rintro vr O' ⟨N,rfl,rfl,rfl⟩
 refine aj (a7 (TO.lc N3 (aO fun w1 hI=>(haveI:=eP hI;aax w1 b)) ?_))
 rintro vr O' ⟨N,rfl,rfl,rfl⟩
 refine aS (bq (bH (bf (aE (br (a7 (bi ?_)))))))
 refine bf (aE (br (a7 (aN (aX (aY cV (by omega)) (bf (aE (br (a7 (aN (aX (bn gT (by omega)) ?_)))))))))))
 refine bW ?_
 refine aQ (aR ?_)
 refine aF (vI 1) results213 F ?_
 exact⟨[],Sub.z,F,F⟩
theorem aay (w:World) [dQ prog w] (a1 a2:Int) (ba:Option Addr) (ca:Nat) (ha:Sl w ba [vI a1,vI a2]) (b1 b2:Int) (bb:Option Addr) (cb:Nat) (hb:Sl w bb [vI b1,vI b2]) (h:b1<a1):
  cB prog 165 [.slice ba 2 ca,.slice bb 2 cb] w fun v N=>v=vI 1∧N=[]:=by
 refine aA func165 F ntmps165 F ?_
 refine aQ (aS (bq (ay (cL da) (bH (aK ?_)))))
 refine dU (fun(k:Nat) ρ O=>O=[]∧k=0∧dh [(0,(.slice ba 2 ca)),(1,(.slice bb 2 cb)),(9,(.slice ba 2 ca)),(10,vI (2:Int)),(11,vN k)] ρ) (fun k=>2-k) 0 ?_ ?_
 ·exact⟨F,F,(.of F)⟩
 rintro k ρ O ⟨rfl,hk,hH⟩
 obtain⟨gv,rfl⟩:=hH.elim
 clear hH
 refine aG (bn cV (by omega)) (dJ ?_)
 refine bW ?_
 refine aE (br (aK (bo (dB k da bM F F (a6 ha) (by omega) (by simp;omega)) (ae (dD eO F F ha (by rw[hk];rfl)) (aS (aS (bq (aN (ay (cL da) (aX (aY km (by omega)) (bf (aE (aQ ?_)))))))))))))
 refine aN (ay (dB k da bM F F (a6 hb) (by omega) (by simp;omega)) (ae (dD eO F F hb (by rw[hk];rfl)) (aj (a7 (aN (TO.lc Wu (aO fun w1 hI=>(haveI:=eP hI;gtC w1 a1 b1 h)) ?_))))))
 rintro vr O' ⟨N,rfl,rfl,rfl⟩
 refine aj (bo (bn d_ (by decide)) (bi ?_))
 refine bW ?_
 refine a7 (aR ?_)
 refine aF (vI 1) results165 F ?_
 exact⟨[],Sub.z,F,F⟩
theorem aaz (w:World) [dQ prog w] (p r:Ob) (h:r.1<p.1):
  cB prog 164 [(.agg #[vN p.1,vN p.2]),(.agg #[vN r.1,vN r.2])] w fun v N=>v=vI 1∧N=[]:=by
 refine aA func164 F ntmps164 F ?_
 refine aQ (ax (ef [vN p.1,vN p.2] (fun z1=>?_)))
 refine ax (ef [vN r.1,vN r.2] (fun z2=>?_))
 refine aj (br ?_)
 refine fW [(0,0),(1,0),(2,2),(3,2)] ?_
 refine ap F (zm ll bM F (by omega)) (ap F (zm ll bM F (by omega)) ?_)
 refine cA F F (eh Wv (aO fun w1 hI=>(haveI:=eP hI;aay w1 (p.1:Int) (p.2:Int) _ 2 (hI.lj (mG 1)) (r.1:Int) (r.2:Int) _ 2 (hI.lj (mG 0)) (by omega))) ?_)
 rintro vr O' ⟨N,rfl,rfl,rfl⟩
 refine cA F F (eV F F cz ?_)
 refine cy ?_
 refine cM (dS ?_)
 refine aF (vI 1) results164 F ?_
 exact⟨[],Sub.z,F,F⟩
theorem aaA (w:World) [dQ prog w] (b:Option Addr) (c:Nat) (o:List Ob) (hS:Sl w b (fY o)) (ha:o.Pairwise fun p q=>p.1<q.1) (hl:o.length≤12):
  cB prog 232 [.slice b o.length c,vI 0,vN o.length,(.func (.func 164) #[] #[])] w fun v N=>v=.tuple #[]∧N=[]:=by
 refine aA func232 F ntmps232 F ?_
 refine bo (cg (jW F F (by omega)) (v':=vN 1) F) (aj (aK ?_))
 refine dU (fun(i:Nat) ρ O=>O=[]∧1≤i∧dh [(0,(.slice b o.length c)),(1,vI 0),(2,vN o.length),(3,(.func (.func 164) #[] #[])),(8,vN i)] ρ) (fun i=>o.length-i) 1 ?_ ?_
 ·exact⟨F,aI _,(.of F)⟩
 rintro i ρ O ⟨rfl,hi,hH⟩
 obtain⟨gv,rfl⟩:=hH.elim
 clear hH
 refine br (a7 (aN (aX cV (aL F (fun hc=>?_) (fun hc=>?_)))))
 ·have oL:i<o.length:=by omega
  have hio:i<o.length:=by omega
  refine aE (br (aK (a7 (aj (aK ?_)))))
  refine dU (fun(j:Nat) ρ O=>O=[]∧j=i∧dh [(0,(.slice b o.length c)),(1,vI 0),(2,vN o.length),(3,(.func (.func 164) #[] #[])),(8,vN i),(9,vN j)] ρ) (fun j=>j) i ?_ ?_
  ·exact⟨F,F,(.of F)⟩
  rintro j ρ O ⟨rfl,B6,hH⟩
  obtain⟨gv,rfl⟩:=hH.elim
  clear hH
  have hjo:j<o.length:=by omega
  have h01:o[j-1].1<o[j].1:=(List.pairwise_iff_getElem.1 ha) (j-1) j (by omega) (by omega) (by omega)
  refine br (br ?_)
  refine fW [(0,0),(1,0),(2,0),(3,0),(4,0),(5,0),(6,0),(7,0),(8,0),(9,0),(10,0),(11,0),(12,0),(13,0),(14,2),(15,2),(16,2)] ?_
  refine ap F aw (ap F aw (ap F (bn gT (by omega)) (ap F aw ?_)))
  refine bs F F F aw ?_
  refine bs F F F aw ?_
  refine bs F F F aw ?_
  refine bs F F F (eF (i:=j) kq iu F F (a6 hS) (by omega) (by rw[kJ];omega)) ?_
  refine bs F F F (fy [vN ((o[j]'(by omega)).1),vN ((o[j]'(by omega)).2)] ll F iu F F (bK _) (a6 hS) (ou (show j<o.length by omega))) ?_
  refine bs F F F aw ?_
  refine bs F F F aw ?_
  refine bs F F F (cg (ga F F (by omega)) (v':=vN (j-1)) (am (Value.int .i64) (by omega))) ?_
  refine bs F F F (eF (i:=(j-1)) kq iu F F (a6 hS) (by omega) (by rw[kJ];omega)) ?_
  refine bs F F F (fy [vN ((o[j-1]'(by omega)).1),vN ((o[j-1]'(by omega)).2)] ll F iu F F (bK _) (a6 hS) (ou (show j-1<o.length by omega))) ?_
  have N4:=(eK (base:=w) (O:=[]) fun w1 hI=>haveI:=eP hI;cZ (first:=[]) (args:=[(.agg #[vN (o[j].1),vN (o[j].2)]),(.agg #[vN (o[j-1].1),vN (o[j-1].2)])]) (gU:=[]) Ww (aaz w1 _ _ h01))
  refine ql F F F F (fT N4 F F ?_)
  clear N4
  rintro vr O' ⟨N,rfl,rfl,rfl⟩
  refine ql F F F F (eV F F (aY cV (by decide)) ?_)
  refine cA F F (eV F F bw ?_)
  refine cy ?_
  refine bf ?_
  refine cD ?_
  refine a_ (ay (dj (b:=1) i F F (by omega)) (aj ?_))
  exact⟨i+1,by omega,F,by omega,(.of F)⟩
 have pk: ¬i<o.length:=by omega
 refine cD ?_
 refine dS ?_
 refine qS.zero results232 ?_
 exact⟨[],Sub.z,F,F⟩
theorem aaB (w:World) [dQ prog w] (b:Option Addr) (c:Nat) (o:List Ob) (hS:Sl w b (fY o)) (ha:o.Pairwise fun p q=>p.1<q.1) (hl:o.length≤12) (lim:Int):
  cB prog 212 [.slice b o.length c,vI 0,vN o.length,vI lim,(.func (.func 164) #[] #[])] w fun v N=>v=.tuple #[]∧N=[]:=by
 refine aA func212 F ntmps212 F ?_
 refine aQ (aj (aQ (aj (aK ?_))))
 refine qn 1 (T.round ?_)
 refine aK (aQ ?_)
 refine aN (ay (cg (ga F F (by omega)) (v':=vN o.length) (am (Value.int .i64) (by omega))) (aS (bq (aN (aX (bn tg (by omega)) ?_)))))
 refine bW ?_
 refine a7 (aN (de (TO.lc Wx (aO fun w1 hI=>(haveI:=eP hI;aaA w1 b c o (hI.sl hS) ha hl)) ?_)))
 rintro vr O' ⟨N,rfl,rfl,rfl⟩
 refine dP ?_
 refine qS.zero results212 ?_
 exact⟨[],Sub.z,F,F⟩
theorem N5 (w:World) [dQ prog w] (n:Nat) (hn:n<1000):cB prog 159 [.int .u64 (n:Int)] w fun v N=>v=vI (Lib.bitLen n:Int)∧N=[]:=fun w1 M hI=>by
 have h:=Go.Proofs.Any.bits_Len (P:=prog) (ρ:=Tryz.xg) {Tryz.CD with} (n:Int) w1 (by omega) (by omega)
 rw[Int.toNat_natCast]at h
 refine h.mono ?_
 rintro e w' ⟨rfl,rfl⟩
 exact⟨_,_,F,hI,F,F⟩
theorem Wy (w:World) [dQ prog w] (b:Option Addr) (c:Nat) (o:List Ob) (hS:Sl w b (fY o)) (ha:o.Pairwise fun p q=>p.1<q.1) (hl:o.length≤12):
  cB prog 163 [.slice b o.length c,(.func (.func 164) #[] #[])] w fun v N=>v=.tuple #[]∧N=[]:=by
 refine aA func163 F ntmps163 F ?_
 refine bo (cL kq) (aj (a_ (de (ay (gi eO TD F (RY (by omega))) (TO.lc Wz (aO fun w1 hI=>(haveI:=eP hI;N5 w1 o.length (by omega))) ?_)))))
 rintro vr O' ⟨N,rfl,rfl,rfl⟩
 refine aN (TO.lc WA (aO fun w1 hI=>(haveI:=eP hI;aaB w1 b c o (hI.sl hS) ha hl (Lib.bitLen o.length:Int))) ?_)
 rintro vr O' ⟨N,rfl,rfl,rfl⟩
 refine bi (dS ?_)
 refine qS.zero results163 ?_
 exact⟨[],Sub.z,F,F⟩
theorem WB (w:World) [dQ prog w] (b:Option Addr) (c:Nat) (o:List Ob) (hS:Sl w b (fY o)) (hl:o.length≤12) (x:Ob) (hx: ∀p∈o,p.1<x.1):
  cB prog 211 [.slice b o.length c,(.agg #[vN x.1,vN x.2])] w fun v N=>v=vI (-1)∧N=[]:=by
 refine aA func211 F ntmps211 F ?_
 refine aQ (ax (ef [vN x.1,vN x.2] (fun om=>?_)))
 refine aS (bq (ay (cL kq) (bH (aK ?_))))
 refine dU (fun(i:Nat) ρ O=>O=[oI om 173 [vN x.1,vN x.2]]∧i≤o.length∧dh [(0,(.slice b o.length c)),(1,(.agg #[vN x.1,vN x.2])),(3,(.pointer (aD om))),(7,vI (o.length:Int)),(8,vN i)] ρ) (fun i=>o.length-i) 0 ?_ ?_
 ·exact⟨F,bj _,(.of F)⟩
 rintro i ρ O ⟨rfl,hi,hH⟩
 obtain⟨gv,rfl⟩:=hH.elim
 clear hH
 refine aG cV (dJ (aL F (fun hc=>?_) (fun hc=>?_)))
 ·have lQ:i<o.length:=by omega
  have hio:i<o.length:=by omega
  have qm:=hx _ (av hio)
  refine aE (br (aK (a7 (aj (br ?_)))))
  refine fW [(0,0),(1,0),(2,0),(3,0),(4,0),(5,0)] ?_
  refine ap F (eR 0 ll iu) (ap F aw (ap F aw (ap F (eF (i:=i) kq iu F F (a6 hS) hio (by rw[kJ];omega)) (ap F (fy [vN (o[i].1),vN (o[i].2)] ll F iu F F (bK _) (a6 hS) (ou hio)) (ap F (cg (Kv ll eO bM (by kernel_rfl) F F) (v':=.bool false) (am Value.bool (a8 (by omega)))) ?_)))))
  refine cy ?_
  refine bf (aE (a_ (ae (dj (b:=1) i F F (by omega)) (bH ?_))))
  exact⟨i+1,by omega,F,by omega,(.of F)⟩
 have Nd: ¬i<o.length:=by omega
 refine cD ?_
 refine aQ (aR ?_)
 refine aF (vI (-1)) results211 F ?_
 exact⟨[],Sub.z,F,F⟩
theorem Kw (w:World) [dQ prog w] (b:Option Addr) (c:Nat) (o:List Ob) (hS:Sl w b (fY o)) (hl:o.length≤12) (x:Ob) (hx: ∀p∈o,p.1<x.1):
  cB prog 161 [.slice b o.length c,(.agg #[vN x.1,vN x.2])] w fun v N=>v=.bool false∧N=[]:=by
 refine aA func161 F ntmps161 F ?_
 refine aQ (ax (ef [vN x.1,vN x.2] (fun om=>?_)))
 refine aj (bo (eR 0 ll iu) (TO.lc WC (aO fun w1 hI=>(haveI:=eP hI;WB w1 b c o (hI.sl hS) hl x hx)) ?_))
 rintro vr O' ⟨N,rfl,rfl,rfl⟩
 refine ae (cg km (v':=.bool false) F) (aR ?_)
 refine aF (.bool false) results161 F ?_
 exact⟨[],Sub.z,F,F⟩
theorem GZ (o:List Ob):((fY o).all fS)=true:=by
 rw[fp]
 intro v hv
 obtain⟨p,_,hv⟩:=List.mem_flatMap.1 hv
 simp only[dt,List.not_mem_nil,or_false]at hv
 rcases hv with rfl|rfl<;>rfl
theorem Kx (w:World) [dQ prog w] (c:Nat):
  cB prog 162 [.slice none 0 c] w fun v N=> ∃b' c',v=.slice b' 0 c'∧N=[az b' c' 173 2 []]:=by
 refine aA func162 F ntmps162 F ?_
 refine aQ (aS (bq (aN (aX (DB kq F F) ?_))))
 refine bW ?_
 refine br (T.fJ 173 2 ?_)
 refine a_ (aj (cM ?_))
 refine aF nS results162 F ?_
 exact⟨_,_,F,F⟩
theorem G0 (w:World) [dQ prog w] (a:Addr) (c:Nat) (o:List Ob) (h1:Sl w (some a) (fY o)) (hb:o.length≤12):
  cB prog 162 [.slice (some a) o.length c] w fun v N=> ∃b' c',v=.slice b' o.length c'∧N=[az b' c' 173 2 (fY o)]:=by
 refine aA func162 F ntmps162 F ?_
 refine aQ (aS (bq (aN (aX (DB kq F F) (bf (aE (aQ (ax (cP (m:=0) (parts:=[]) (cs:=[]) kq iu (by decide) (by simp[Instr.fill]) F (fun b1=>?_))))))))))
 refine aN (ax (dE 0 kq kq iu F F F F (by simp) (by decide) (Src.sl h1 (by rw[kJ])) (GZ o) (by omega) (by decide) (by decide) (fun om c2=>?_)))
 refine aj (cM ?_)
 refine aF (.slice om (0+o.length) c2) results162 F ?_
 exact⟨_,_,by rw[Nat.zero_add],F⟩
theorem N6 (w:World) [dQ prog w] (b:Option Addr) (c:Nat) (o:List Ob) (h1:Sl w b (fY o)) (hb:o.length≤12):
  cB prog 162 [.slice b o.length c] w fun v N=> ∃b' c',v=.slice b' o.length c'∧N=[az b' c' 173 2 (fY o)]:=by
 cases b with
 |none=>
  have hx:o=[]:=by
   cases o with
   |nil=>rfl
   |cons x xs=>obtain⟨_,_,e⟩:=h1.addr (i:=0) (by simp[fY]);cases e
  subst hx
  exact Kx w c
 |some a=>exact G0 w a c o h1 hb
theorem rZ {ls:List Lf} {ks:List LK} {k:Nat} (hk:ks.length=ls.length) (h:k<ls.length) (j:Nat) {v:Value} (hv:(lK (lf ls k) (lk ks k))[j]? =some v) {n:Nat} (hn:n=k*7+j):(dA ls ks)[n]? =some v:=by
 obtain⟨hj,rfl⟩:=List.getElem?_eq_some_iff.1 hv
 subst hn
 exact zn hk h j hj
theorem aaC (w:World) [dQ prog w] (ob:Nat) (lb:Option Addr) (lc:Nat) (cv fv:Value) (ls:List Lf) (ks:List LK) (ho:l_ w ob lb lc cv fv ls ks) (vs:Nat) (hG:iW ls vs) (r:OB) (hr:Sl w r.b (fY r.o)) (x:Ob) (m:Nat) (Kl:gy ls m r.o) (hm:m≤x.1) (hk:x.1<ls.length) (hs:x.2<(lf ls x.1).d.next.length):
  cB prog 113 [(eJ ob 0),.slice r.b r.o.length r.c,(.agg #[vN x.1,vN x.2])] w fun v N=> ∃pl r2,v=OB.val r2∧N=gG 173 pl∧r2.o=ow ls r.o x∧((pl=[]∧r2=r)∨pl=[r2]):=by
 refine aA func113 F ntmps113 F ?_
 have hv:=hG.kW hk
 have iH:=hG.len
 have Wq:=Kl.len
 refine aQ (ax (ef [vN x.1,vN x.2] (fun z1=>?_)))
 refine aj (br (br ?_))
 refine fW [(0,0),(1,0),(2,0),(3,0),(4,0),(5,0),(6,0),(7,0),(8,0),(9,0),(10,0),(11,0),(12,0),(13,0),(14,0),(15,0),(16,0),(17,2),(18,2)] ?_
 refine ap F aw (ap F bg (ap F (cF gV F gY F F (a6 ho.bx) (by first|omega|(simp;done)|(simp;omega)|(simp_all;done)|(simp_all;omega))) (ap F (dD fU F F ho.bx F) (ap F (kn (i:=0) ll bM F F (by decide)) (ap F (bF 0 eO) (ap F (eF (i:=x.1) fU fG F F (a6 ho.rw) hk (by rw[ey ho.kl];omega)) (ap F (cF ji F bY F F (a6 ho.rw) (by rw[ey ho.kl];omega)) (ap F (cF dm F e7 F F (a6 ho.rw) (by rw[ey ho.kl];show x.1*7+1<_;omega)) (ap F (dD eS F F ho.rw (rZ ho.kl hk 4 F F)) (ap F (kn (i:=1) ll bM F F (by decide)) (ap F (bF 0 eO) (ap F (dB x.2 eS gq F F (a6 (ho.dk _ hk).aT) (by rw[hv.fin];exact hs) (by rw[ai,hv.fin];exact hs)) (ap F (iN uT F F (a6 (ho.dk _ hk).aT) (qe hv hs)) ?_)))))))))))))
 by_cases oF:dR (lf ls x.1).d x.2=true
 ·refine ap F (eT aw (oF)) ?_
  refine aU F F F (aU F F F ?_)
  refine uK (by decide) F F F F F ?_
  refine cA F F (eV F F bw ?_)
  refine cy ?_
  refine bW ?_
  refine a7 (aR ?_)
  refine aF (.slice r.b r.o.length r.c) results113 F ?_
  have e9:ow ls r.o x=r.o:=aB oF
  exact⟨[],Sub.z,[],r,by first|rfl|(rw[e9];rfl),F,e9.symm,.inl ⟨F,F⟩⟩
 refine ap F (eT aw (Bool.eq_false_iff.2 oF)) ?_
 refine bs F F F aw ?_
 refine bs F F F (eR 0 ll iu) ?_
 have rS:=fun(w1:World) (hI:Inv w [oI z1 173 [vN x.1,vN x.2]] w1)=>(haveI:=eP hI;Kw w1 r.b r.c r.o (hI.sl hr) (by omega) x (fun p hp=>eQ (Kl.2 p hp).1 hm))
 refine ql F F F F (eh WD (aO rS) ?_)
 clear rS
 rintro vr O' ⟨N,rfl,rfl,rfl⟩
 refine cA F F (eV F F bU ?_)
 refine cy ?_
 refine bf (aE ?_)
 refine fF (fun ρ O=> ∃(ab:Option Addr) (ac zb:Nat),O=[az ab ac 173 2 ((fY r.o)++[vN x.1,vN x.2]),bJ zb 1 173 2 [vN x.1,vN x.2],oI z1 173 [vN x.1,vN x.2]]∧dh [(0,(eJ ob 0)),(1,(.slice r.b r.o.length r.c)),(2,(.agg #[vN x.1,vN x.2])),(5,(.pointer (aD z1))),(6,nS),(7,(.slice ab (r.o.length+1) ac))] ρ) ?_ ?_
 ·refine pq [oI z1 173 [vN x.1,vN x.2]] 6 mixed F (by exact Sub.rf) (fun _ _ _ _ h=>h) ?_
  refine cI 0 F (by kernel_rfl) aw ?_
  refine cI 2 F (by kernel_rfl) (eR 0 ll iu) ?_
  have uZ:=fun(w1:World) (hI:Inv w [oI z1 173 [vN x.1,vN x.2]] w1)=>(haveI:=eP hI;N6 w1 r.b r.c r.o (hI.sl hr) (by omega))
  refine cS [1,3] (by kernel_rfl) F ⟨⟨_,F,F,eh N7 (aO uZ) ?_⟩,⟨_,F,F,cP (m:=1) (parts:=[(0,_)]) (cs:=[vN x.1,vN x.2]) kq iu (by decide) (by kernel_rfl) F (fun zb=>⟨by exact Sub.d (.k .z),?_⟩)⟩,trivial⟩
  ·clear uZ
   rintro vr O' ⟨N,rfl,nb,nc,rfl,rfl⟩
   refine⟨by exact Sub.d (.k .z),?_⟩
   refine cS [3] (by kernel_rfl) F ⟨⟨_,F,F,cP (m:=1) (parts:=[(0,_)]) (cs:=[vN x.1,vN x.2]) kq iu (by decide) (by kernel_rfl) F (fun zb=>⟨by exact Sub.d (.d (.k .z)),?_⟩)⟩,trivial⟩
   refine cS [4] (by kernel_rfl) F ⟨⟨_,F,F,dE 1 kq kq iu F F F F (by rw[kJ]) (by decide) (Src.row (j:=0) F (by simp)) (by simp[fS]) (by omega) (by decide) (by decide) (fun ab ac=>⟨by exact Sub.d (.d (.k .z)),?_⟩)⟩,trivial⟩
   refine cI 5 F (by kernel_rfl) cz ?_
   exact im (by kernel_rfl) ⟨ab,ac,zb,F,(.of F)⟩ (by exact Sub.fz [bJ zb 1 173 2 [vN x.1,vN x.2]] _ (.k (.k .z)))
  have uZ:=fun(w1:World) (hI:Inv w [bJ zb 1 173 2 [vN x.1,vN x.2],oI z1 173 [vN x.1,vN x.2]] w1)=>(haveI:=eP hI;N6 w1 r.b r.c r.o (hI.sl hr) (by omega))
  refine cS [1] (by kernel_rfl) F ⟨⟨_,F,F,eh N7 (aO uZ) ?_⟩,trivial⟩
  clear uZ
  rintro vr O' ⟨N,rfl,nb,nc,rfl,rfl⟩
  refine⟨by exact Sub.d (.d (.k .z)),?_⟩
  refine cS [4] (by kernel_rfl) F ⟨⟨_,F,F,dE 0 kq kq iu F F F F (by rw[kJ]) (by decide) (Src.row (j:=1) F (by simp)) (by simp[fS]) (by omega) (by decide) (by decide) (fun ab ac=>⟨by exact Sub.d (.d (.k .z)),?_⟩)⟩,trivial⟩
  refine cI 5 F (by kernel_rfl) cz ?_
  exact im (by kernel_rfl) ⟨ab,ac,zb,F,(.of F)⟩ (by exact Sub.rf)
 rintro ρ O ⟨ab,ac,zb,rfl,hH⟩
 obtain⟨gv,rfl⟩:=hH.elim
 clear hH
 refine a7 ?_
 have MW:=fun(w1:World) (hI:Inv w [az ab ac 173 2 ((fY r.o)++[vN x.1,vN x.2]),bJ zb 1 173 2 [vN x.1,vN x.2],oI z1 173 [vN x.1,vN x.2]] w1)=>(haveI:=eP hI;(show cB _ _ _ _ (fun v N=>v=Value.tuple #[]∧N=[])from by
   have h9:=Wy w1 ab ac (r.o++[x]) (by rw[xh];exact hI.ij (mG 0)) (List.pairwise_append.2 ⟨Kl.1,List.pairwise_singleton _ _,fun p hp q hq=>by rw[List.mem_singleton.1 hq];exact eQ (Kl.2 p hp).1 hm⟩) (by rw[aJ];simp;omega)
   rw[aJ]at h9
   exact h9))
 refine TO.lc WE (aO MW) ?_
 clear MW
 rintro vr O' ⟨N,rfl,rfl,rfl⟩
 refine bi (a7 (aR ?_))
 refine aF (.slice ab (r.o.length+1) ac) results113 F ?_
 have e9:ow ls r.o x=r.o++[x]:=aq oF
 exact⟨[az ab ac 173 2 ((fY r.o)++[vN x.1,vN x.2])],(by exact Sub.k .z),[⟨ab,ac,r.o++[x]⟩],⟨ab,ac,r.o++[x]⟩,by show _=Value.slice _ (r.o++[x]).length _;rw[aJ];rfl,by show[_]=[az _ _ _ _ (fY (r.o++[x]))];rw[xh],e9.symm,.inr F⟩
def r5 (base:World) (f:FuncId) (args:List Value) (zs:Nat) (bb:Option Addr) (bc nk:Nat) (bh:List Nat) (ls:List Lf) (r:OB) (E:List Cf):Prop:= ∀(cb:Option Addr) (cc:Nat) (l:List CR) (p:List OB),ml ls l p→nf p r→
 cx prog base f args ([eu zs (.cells (List.toArray [(.slice bb bh.length bc),(.slice cb l.length cc)]) 122 (0,0)),az cb cc 169 3 (dK l),az bb nk 3 1 (cm bh)]++gG 173 p) (fun v O'=> ∃wg wh l' p',v=.tuple #[]∧O'=[eu zs (.cells (List.toArray [(.slice bb bh.length bc),(.slice wg l'.length wh)]) 122 (0,0)),az wg wh 169 3 (dK l'),az bb nk 3 1 (cm bh)]++gG 173 p'∧l'.map CR.cf=E.foldl add (l.map CR.cf)∧ml ls l' p'∧(∀x∈p,x∈p'))
theorem WF (base:World) [dQ prog base] {ls:List Lf} {vs:Nat} (hG:iW ls vs) {K:Nat} (hK:rN ls K) (zp:K<1099511627776) (ov:Value) (zs:Nat) (bb:Option Addr) (bc:Nat) (bh:List Nat) (B:List Lx.Item) (cb:Option Addr) (cc:Nat) (l:List CR) (p:List OB) (x:CR) (hS:ml ls l p) (hx:jT ls x.cf) (Qu:nf p x.r) {O:List Lx.Item} (hs:Sub ([eu zs (.cells (List.toArray [(.slice bb bh.length bc),(.slice cb l.length cc)]) 122 (0,0)),az cb cc 169 3 (dK l)]++B) O):
  cx prog base 114 [ov,.pointer (aD zs),(.agg #[vI x.k,vI ((x.s:Nat):Int),(.slice x.r.b x.r.o.length x.r.c)])] (O++gG 173 p) (fun v O'=> ∃wg wh l',v=.tuple #[]∧O'=([eu zs (.cells (List.toArray [(.slice bb bh.length bc),(.slice wg l'.length wh)]) 122 (0,0)),az wg wh 169 3 (dK l')]++B)++gG 173 p∧l'.map CR.cf=[x.cf].foldl add (l.map CR.cf)∧ml ls l' p):=by
 have h:=aep base hG ov zs (.slice bb bh.length bc) cb cc l p x hS.ua hS.N8 hx Qu (kG (hS.len hK) zp)
 refine((h.under (B:=B) (r8 _ _ _ _ hs))).post ?_
 rintro v O' ⟨A',rfl,wg,wh,rfl,rfl⟩
 exact⟨_,r_ _ _ _,wg,wh,AK l x,F,F,It l x,hS.add hx Qu⟩
theorem WG (base:World) [dQ prog base] (ob:Nat) (lb:Option Addr) (lc:Nat) (cv fv:Value) (ls:List Lf) (ks:List LK) (ho:l_ base ob lb lc cv fv ls ks) (vs:Nat) (hG:iW ls vs) {K:Nat} (hK:rN ls K) (zp:K<1099511627776) (zs:Nat) (bb:Option Addr) (bc nk:Nat) (bh:List Nat) (hb:qP ls bh) (k:Nat) (hk:k<ls.length) (r:OB) (xR:gy ls ls.length r.o) (f:Nat) (hE: ∀j∈(lf ls k).fo,r5 base 109 [(eJ ob 0),(.pointer (aD zs)),vI ((j:Nat):Int),(.slice r.b r.o.length r.c)] zs bb bc nk bh ls r (fL ls f bh j r.o)) (cb:Option Addr) (cc:Nat) (l:List CR) (p:List OB) (hS:ml ls l p) (F1:nf p r):
  cx prog base 115 [(eJ ob 0),(.pointer (aD zs)),vI ((k:Nat):Int),(.slice r.b r.o.length r.c)] ([oI zs 122 [(.slice bb bh.length bc),(.slice cb l.length cc)],az cb cc 169 3 (dK l),az bb nk 3 1 (cm bh)]++gG 173 p) (fun v O'=> ∃wg wh l' p',v=.tuple #[]∧O'=[oI zs 122 [(.slice bb bh.length bc),(.slice wg l'.length wh)],az wg wh 169 3 (dK l'),az bb nk 3 1 (cm bh)]++gG 173 p'∧l'.map CR.cf=(gm ls (f+1) bh k r.o).foldl add (l.map CR.cf)∧ml ls l' p'∧(∀x∈p,x∈p')):=by
 refine aA func115 F ntmps115 F ?_
 have Ly:=hG.fol _ (kX hk)
 refine br (bo bg (ae (cF gV F gY F F (a6 ho.bx) (by first|omega|(simp;done)|(simp;omega)|(simp_all;done)|(simp_all;omega))) (ae (dD fU F F ho.bx F) (ay (eF (i:=k) fU fG F F (a6 ho.rw) hk (by rw[ey ho.kl];omega)) (ae (cF ji F eo F F (a6 ho.rw) (by rw[ey ho.kl];omega)) (ae (dD da F F ho.rw (rZ ho.kl hk 5 F F)) (ae (cL da) (bH (aK ?_)))))))))
 let eH:Lx.Item:=az bb nk 3 1 (cm bh)
 refine ep (fun(i:Nat) ρ O=> ∃(T6:Option Addr) (T7:Nat) (l2:List CR) (p2:List OB),O=([oI zs 122 [(.slice bb bh.length bc),(.slice T6 l2.length T7)],az T6 T7 169 3 (dK l2),eH]++(gG 173 p2))∧i≤(lf ls k).fo.length∧l2.map CR.cf=(((lf ls k).fo.take i).flatMap fun j=>fL ls f bh j r.o).foldl add (l.map CR.cf)∧ml ls l2 p2∧(∀x∈p,x∈p2)∧dh [(0,(eJ ob 0)),(1,(.pointer (aD zs))),(2,vI ((k:Nat):Int)),(3,(.slice r.b r.o.length r.c)),(17,(.slice (lk ks k).b ((lf ls k).fo.length) ((lk ks k).c))),(18,vI ((lf ls k).fo.length:Int)),(19,vI ((i:Nat):Int))] ρ) (fun i=>(lf ls k).fo.length-i) 0 ?_ ?_
 ·exact⟨cb,cc,l,p,F,bj _,F,hS,fun x hx=>hx,(.of F)⟩
 rintro i ρ O ⟨T6,T7,l2,p2,rfl,hi,Dq,Y5,Bi,hH⟩
 obtain⟨gv,rfl⟩:=hH.elim
 clear hH
 refine aG cV (dJ (aL F (fun hc=>?_) (fun hc=>?_)))
 ·have xi:i<(lf ls k).fo.length:=by omega
  refine aE (br (aK (aG (dB i da bM F F (a6 (ho.fo _ hk)) xi (by rw[ai];exact xi)) (ae (dD eO F F (ho.fo _ hk) (iT xi)) (aj (a_ (de (de ?_))))))))
  have uW:=hE (lf ls k).fo[i] (av xi) T6 T7 l2 p2 Y5 (F1.mono Bi)
  refine TO.lc N_ uW ?_
  clear uW
  rintro vr O' ⟨RZ,R0,l3,p3,rfl,rfl,R1,LA,FY⟩
  refine bi (a_ (ae (dj (b:=1) i F F (by omega)) (bH ?_)))
  exact⟨i+1,by omega,_,cd (aP _),RZ,R0,l3,p3,F,by omega,by rw[aC xi,List.flatMap_append,cT,←Dq,R1];simp,LA,fun x hx=>FY x (Bi x hx),(.of F)⟩
 have Oa: ¬i<(lf ls k).fo.length:=by omega
 refine cD ?_
 refine bo bg (ae (cF gV F gY F F (a6 ho.bx) (by first|omega|(simp;done)|(simp;omega)|(simp_all;done)|(simp_all;omega))) (ae (dD fU F F ho.bx F) (ay (eF (i:=k) fU fG F F (a6 ho.rw) hk (by rw[ey ho.kl];omega)) (ae (cF ji F gq F F (a6 ho.rw) (by rw[ey ho.kl];omega)) (aX (dD uT F F ho.rw (rZ ho.kl hk 6 F F)) (T.cond F (fun hc=>?_) (fun hc=>?_)))))))
 ·have MD:(lf ls k).la=true:=hc
  refine a_ (de (ay (dc [vI (-1),vI 0,(.slice r.b r.o.length r.c)] CE jY (by kernel_rfl)) ?_))
  have NT:=WF base hG hK zp (eJ ob 0) zs bb bc bh [eH] T6 T7 l2 p2 ⟨-1,0,r⟩ Y5 (.inl ⟨F,F,xR⟩) (F1.mono Bi) (O:=[oI zs 122 [(.slice bb bh.length bc),(.slice T6 l2.length T7)],az T6 T7 169 3 (dK l2),eH]) (by exact Sub.rf)
  refine TO.lc G1 NT ?_
  clear NT
  rintro vr O' ⟨Ey,Ez,l4,rfl,rfl,WH,WI⟩
  refine bi (dS ?_)
  refine qS.zero results115 ?_
  have xF:i=(lf ls k).fo.length:=by omega
  subst xF
  rw[List.take_length]at Dq
  have e9:gm ls (f+1) bh k r.o=((lf ls k).fo.flatMap fun j=>fL ls f bh j r.o)++[⟨-1,0,r.o⟩]:=by unfold gm;rw[aB MD]
  exact⟨_,cd (aP _),Ey,Ez,l4,p2,F,F,by rw[e9,cT,←Dq,WH];rfl,WI,Bi⟩
 have MD: ¬(lf ls k).la=true:=by rw[hc];simp
 refine aE (dS ?_)
 refine qS.zero results115 ?_
 have xF:i=(lf ls k).fo.length:=by omega
 subst xF
 rw[List.take_length]at Dq
 have e9:gm ls (f+1) bh k r.o=((lf ls k).fo.flatMap fun j=>fL ls f bh j r.o)++[]:=by unfold gm;rw[aq MD]
 exact⟨_,cd (aP _),T6,T7,l2,p2,F,F,by rw[e9,dp,Dq],Y5,Bi⟩
def Iu (l:Lf) (q:LK):List Value:=[v8 l.op,vI l.d.vars,vI ((l.d.start.toNat:Nat):Int),.slice q.k.nb l.d.next.length q.k.nc,.slice q.k.fb l.d.aT.length q.k.fc,.slice q.b l.fo.length q.c,.bool l.la]
theorem pK {ls:List Lf} {ks:List LK} {k:Nat} (hk:ks.length=ls.length) (h:k<ls.length) (h0:0≤(lf ls k).d.start): ∀j (hj:j<(Iu (lf ls k) (lk ks k)).length),(dA ls ks)[k*7+j]? =some (Iu (lf ls k) (lk ks k))[j]:=fun j hj=>by
 have e:Iu (lf ls k) (lk ks k)=lK (lf ls k) (lk ks k):=by unfold Iu;rw[cW h0];rfl
 simp only[e]at hj⊢
 exact zn hk h j hj
theorem iP {l:List Nat} {i:Nat} (h:i<l.length):(cm l)[i]? =some (vI ((l.getD i 0:Nat):Int)):=by
 rw[iT h,au,ak h];rfl
theorem WJ (base:World) [dQ prog base] (ob:Nat) (lb:Option Addr) (lc:Nat) (cv fv:Value) (ls:List Lf) (ks:List LK) (ho:l_ base ob lb lc cv fv ls ks) (vs:Nat) (hG:iW ls vs) {K:Nat} (hK:rN ls K) (zp:K<1099511627776) (zs:Nat) (bb:Option Addr) (bc nk:Nat) (bh:List Nat) (hb:qP ls bh) (k:Nat) (hk:k<ls.length) (Ky:(lf ls k).op=9) (r:OB) (xR:gy ls k r.o) (f:Nat) (hL: ∀r2:OB,gy ls (k+1) r2.o→r5 base 115 [(eJ ob 0),(.pointer (aD zs)),vI ((k:Nat):Int),(.slice r2.b r2.o.length r2.c)] zs bb bc nk bh ls r2 (gm ls f bh k r2.o)) (cb:Option Addr) (cc:Nat) (l:List CR) (p:List OB) (hS:ml ls l p) (F1:nf p r):
  cx prog base 109 [(eJ ob 0),(.pointer (aD zs)),vI ((k:Nat):Int),(.slice r.b r.o.length r.c)] ([oI zs 122 [(.slice bb bh.length bc),(.slice cb l.length cc)],az cb cc 169 3 (dK l),az bb nk 3 1 (cm bh)]++gG 173 p) (fun v O'=> ∃wg wh l' p',v=.tuple #[]∧O'=[oI zs 122 [(.slice bb bh.length bc),(.slice wg l'.length wh)],az wg wh 169 3 (dK l'),az bb nk 3 1 (cm bh)]++gG 173 p'∧l'.map CR.cf=(fL ls (f+1) bh k r.o).foldl add (l.map CR.cf)∧ml ls l' p'∧(∀x∈p,x∈p')):=by
 refine aA func109 F ntmps109 F ?_
 have hv:=hG.kW hk
 have yr:=ez hv.toVal
 have T8:k<bh.length:=by rw[hb.len];exact hk
 have hbs:=hb.lt k hk
 have R3:gy ls (k+1) r.o:=xR.mono (Nat.le_succ k)
 refine bo bg (ae (cF gV F gY F F (a6 ho.bx) (by first|omega|(simp;done)|(simp;omega)|(simp_all;done)|(simp_all;omega))) (ae (dD fU F F ho.bx F) (ay (eF (i:=k) fU fG F F (a6 ho.rw) hk (by rw[ey ho.kl];omega)) (ae (fy [v8 ((lf ls k).op),vI (lf ls k).d.vars,vI (((lf ls k).d.start.toNat:Nat):Int),(.slice (lk ks k).k.nb ((lf ls k).d.next.length) ((lk ks k).k.nc)),(.slice (lk ks k).k.fb ((lf ls k).d.aT.length) ((lk ks k).k.fc)),(.slice (lk ks k).b ((lf ls k).fo.length) ((lk ks k).c)),.bool (lf ls k).la] ji F fG F F (bK _) (a6 ho.rw) (pK ho.kl hk hv.s0)) (ax (b_ fG (fun z1=>?_)))))))
 refine ax (c8 [v8 ((lf ls k).op),vI (lf ls k).d.vars,vI (((lf ls k).d.start.toNat:Nat):Int),(.slice (lk ks k).k.nb ((lf ls k).d.next.length) ((lk ks k).k.nc)),(.slice (lk ks k).k.fb ((lf ls k).d.aT.length) ((lk ks k).k.fc)),(.slice (lk ks k).b ((lf ls k).fo.length) ((lk ks k).c)),.bool (lf ls k).la] 0 fG ?_)
 refine bi (aK (aG (bu ji eN) (ae (bF 0 il) (ae (bn bN (by omega)) (aj ?_)))))
 refine bW ?_
 refine a_ (aN (de (de (ay (bu ji bY) (ae (bu dm bM) (ae (bF 0 eO) (ae (uL (cs:=[vI ((k:Nat):Int),vI (((lf ls k).d.start.toNat:Nat):Int)]) ll bM iu (by kernel_rfl)) ?_)))))))
 have y_:=fun(w1:World) (hI:Inv base ([oI z1 118 [v8 ((lf ls k).op),vI (lf ls k).d.vars,vI (((lf ls k).d.start.toNat:Nat):Int),(.slice (lk ks k).k.nb ((lf ls k).d.next.length) ((lk ks k).k.nc)),(.slice (lk ks k).k.fb ((lf ls k).d.aT.length) ((lk ks k).k.fc)),(.slice (lk ks k).b ((lf ls k).fo.length) ((lk ks k).c)),.bool (lf ls k).la],oI zs 122 [(.slice bb bh.length bc),(.slice cb l.length cc)],az cb cc 169 3 (dK l),az bb nk 3 1 (cm bh)]++(gG 173 p)) w1)=>(haveI:=eP hI;aaC w1 ob lb lc cv fv ls ks (hI.out ho) vs hG r (nf.sl hI (fun it gf=>ah _ gf) F1) (k,(lf ls k).d.start.toNat) k xR (aI _) hk yr)
 refine TO.lc Oc (aO y_) ?_
 clear y_
 rintro vr O' ⟨N,rfl,pl,r2,rfl,rfl,Od,EA⟩
 have hg2:gy ls (k+1) r2.o:=by rw[Od];exact wi (x:=(k,_)) xR (aI _) yr
 have aeq:nf (pl++p) r2:=by
  rcases EA with⟨rfl,rfl⟩|rfl
  ·exact F1.mono fun x hx=>by simpa using hx
  ·exact .inl (by simp)
 refine dW (O':=([oI z1 118 [v8 ((lf ls k).op),vI (lf ls k).d.vars,vI (((lf ls k).d.start.toNat:Nat):Int),(.slice (lk ks k).k.nb ((lf ls k).d.next.length) ((lk ks k).k.nc)),(.slice (lk ks k).k.fb ((lf ls k).d.aT.length) ((lk ks k).k.fc)),(.slice (lk ks k).b ((lf ls k).fo.length) ((lk ks k).c)),.bool (lf ls k).la],oI zs 122 [(.slice bb bh.length bc),(.slice cb l.length cc)],az cb cc 169 3 (dK l),az bb nk 3 1 (cm bh)]++((gG 173 pl)++(gG 173 p)))) (by exact gh [] _ (gG 173 pl) (gG 173 p)) ?_
 have aaE:=cx.sub (O':=[oI zs 122 [(.slice bb bh.length bc),(.slice cb l.length cc)],az cb cc 169 3 (dK l),az bb nk 3 1 (cm bh)]++gG 173 (pl++p)) (O:=([oI z1 118 [v8 ((lf ls k).op),vI (lf ls k).d.vars,vI (((lf ls k).d.start.toNat:Nat):Int),(.slice (lk ks k).k.nb ((lf ls k).d.next.length) ((lk ks k).k.nc)),(.slice (lk ks k).k.fb ((lf ls k).d.aT.length) ((lk ks k).k.fc)),(.slice (lk ks k).b ((lf ls k).fo.length) ((lk ks k).c)),.bool (lf ls k).la],oI zs 122 [(.slice bb bh.length bc),(.slice cb l.length cc)],az cb cc 169 3 (dK l),az bb nk 3 1 (cm bh)]++((gG 173 pl)++(gG 173 p)))) (by rw[EB];exact(by exact Sub.d (.k (.k (.k .rf))))) (hL r2 hg2 cb cc l (pl++p) (hS.mono fun x hx=>ah _ hx) aeq)
 refine TO.lc CF aaE ?_
 clear aaE
 rintro vr O' ⟨RZ,R0,l3,p3,rfl,rfl,R1,LA,FY⟩
 refine bi (dS ?_)
 refine qS.zero results109 ?_
 exact⟨_,cd (aP _),RZ,R0,l3,p3,F,F,by rw[R1,Od];unfold fL;rw[aB Ky],LA,fun x hx=>FY x (ah _ hx)⟩
theorem WK (base:World) [dQ prog base] (ob:Nat) (lb:Option Addr) (lc:Nat) (cv fv:Value) (ls:List Lf) (ks:List LK) (ho:l_ base ob lb lc cv fv ls ks) (vs:Nat) (hG:iW ls vs) {K:Nat} (hK:rN ls K) (zp:K<1099511627776) (zs:Nat) (bb:Option Addr) (bc nk:Nat) (bh:List Nat) (hb:qP ls bh) (k:Nat) (hk:k<ls.length) (Ky:(lf ls k).op=10) (r:OB) (xR:gy ls k r.o) (f:Nat) (hL: ∀r2:OB,gy ls (k+1) r2.o→r5 base 115 [(eJ ob 0),(.pointer (aD zs)),vI ((k:Nat):Int),(.slice r2.b r2.o.length r2.c)] zs bb bc nk bh ls r2 (gm ls f bh k r2.o)) (cb:Option Addr) (cc:Nat) (l:List CR) (p:List OB) (hS:ml ls l p) (F1:nf p r):
  cx prog base 109 [(eJ ob 0),(.pointer (aD zs)),vI ((k:Nat):Int),(.slice r.b r.o.length r.c)] ([oI zs 122 [(.slice bb bh.length bc),(.slice cb l.length cc)],az cb cc 169 3 (dK l),az bb nk 3 1 (cm bh)]++gG 173 p) (fun v O'=> ∃wg wh l' p',v=.tuple #[]∧O'=[oI zs 122 [(.slice bb bh.length bc),(.slice wg l'.length wh)],az wg wh 169 3 (dK l'),az bb nk 3 1 (cm bh)]++gG 173 p'∧l'.map CR.cf=(fL ls (f+1) bh k r.o).foldl add (l.map CR.cf)∧ml ls l' p'∧(∀x∈p,x∈p')):=by
 refine aA func109 F ntmps109 F ?_
 have hv:=hG.kW hk
 have yr:=ez hv.toVal
 have T8:k<bh.length:=by rw[hb.len];exact hk
 have hbs:=hb.lt k hk
 have R3:gy ls (k+1) r.o:=xR.mono (Nat.le_succ k)
 refine bo bg (ae (cF gV F gY F F (a6 ho.bx) (by first|omega|(simp;done)|(simp;omega)|(simp_all;done)|(simp_all;omega))) (ae (dD fU F F ho.bx F) (ay (eF (i:=k) fU fG F F (a6 ho.rw) hk (by rw[ey ho.kl];omega)) (ae (fy [v8 ((lf ls k).op),vI (lf ls k).d.vars,vI (((lf ls k).d.start.toNat:Nat):Int),(.slice (lk ks k).k.nb ((lf ls k).d.next.length) ((lk ks k).k.nc)),(.slice (lk ks k).k.fb ((lf ls k).d.aT.length) ((lk ks k).k.fc)),(.slice (lk ks k).b ((lf ls k).fo.length) ((lk ks k).c)),.bool (lf ls k).la] ji F fG F F (bK _) (a6 ho.rw) (pK ho.kl hk hv.s0)) (ax (b_ fG (fun z1=>?_)))))))
 refine ax (c8 [v8 ((lf ls k).op),vI (lf ls k).d.vars,vI (((lf ls k).d.start.toNat:Nat):Int),(.slice (lk ks k).k.nb ((lf ls k).d.next.length) ((lk ks k).k.nc)),(.slice (lk ks k).k.fb ((lf ls k).d.aT.length) ((lk ks k).k.fc)),(.slice (lk ks k).b ((lf ls k).fo.length) ((lk ks k).c)),.bool (lf ls k).la] 0 fG ?_)
 refine bi (aK (aG (bu ji eN) (ae (bF 0 il) (ae (aY bN (by omega)) (aj (bf (br ?_)))))))
 refine fW [(0,0),(1,0),(2,0),(3,0),(4,0),(5,0),(6,0),(7,0),(8,0),(9,0),(10,0),(11,0),(12,0),(13,0),(14,0),(15,0),(16,0),(17,0)] ?_
 refine ap F (bu ji eN) (ap F (bF 0 il) (ap F (bn bN (by omega)) (ap F aw ?_)))
 refine bs F F F (bu ji bY) ?_
 refine bs F F F (bu dm e7) ?_
 refine bs F F F (bF 0 eS) ?_
 refine bs F F F aw ?_
 refine bs F F F bg ?_
 refine bs F F F (bu m_ eo) ?_
 refine bs F F F (bF 1 da) ?_
 refine bs F F F aw ?_
 refine bs F F F (dB k da bM F F (eA 3) T8 (by rw[ai];exact T8)) ?_
 refine bs F F F (iN eO F F (eA 3) (iP T8)) ?_
 refine bs F F F (dB ((bh.getD k 0)) eS gq F F (a6 (ho.dk _ hk).aT) (by rw[hv.fin];exact hbs) (by rw[ai,hv.fin];exact hbs)) ?_
 refine bs F F F (iN uT F F (a6 (ho.dk _ hk).aT) (qe hv hbs)) ?_
 refine ap F bw (ap F cz ?_)
 refine cy ?_
 refine T.cond F (fun hc=>?_) (fun hc=>?_)
 ·have AL:dR (lf ls k).d (bh.getD k 0)=true:=hc
  refine a_ (de (de ?_))
  have L9:=cx.sub (O':=[oI zs 122 [(.slice bb bh.length bc),(.slice cb l.length cc)],az cb cc 169 3 (dK l),az bb nk 3 1 (cm bh)]++gG 173 p) (O:=([oI z1 118 [v8 ((lf ls k).op),vI (lf ls k).d.vars,vI (((lf ls k).d.start.toNat:Nat):Int),(.slice (lk ks k).k.nb ((lf ls k).d.next.length) ((lk ks k).k.nc)),(.slice (lk ks k).k.fb ((lf ls k).d.aT.length) ((lk ks k).k.fc)),(.slice (lk ks k).b ((lf ls k).fo.length) ((lk ks k).c)),.bool (lf ls k).la],oI zs 122 [(.slice bb bh.length bc),(.slice cb l.length cc)],az cb cc 169 3 (dK l),az bb nk 3 1 (cm bh)]++(gG 173 p))) (by exact(by exact Sub.d (.k (.k (.k .rf))))) (hL r R3 cb cc l p hS F1)
  refine TO.lc CF L9 ?_
  clear L9
  rintro vr O' ⟨RZ,R0,l3,p3,rfl,rfl,R1,LA,FY⟩
  refine bi (dS ?_)
  refine qS.zero results109 ?_
  exact⟨_,cd (aP _),RZ,R0,l3,p3,F,F,by rw[R1];unfold fL;rw[aq (by omega),aB Ky,aB AL],LA,FY⟩
 have AL: ¬dR (lf ls k).d (bh.getD k 0)=true:=by rw[hc];simp
 refine aG (bu ji eN) (ae (bF 0 il) (ae (aY bN (by omega)) (aj (bf (aE (dS ?_))))))
 refine qS.zero results109 ?_
 exact⟨[oI zs 122 [(.slice bb bh.length bc),(.slice cb l.length cc)],az cb cc 169 3 (dK l),az bb nk 3 1 (cm bh)]++gG 173 p,(by exact Sub.d (.k (.k (.k .rf)))),cb,cc,l,p,F,F,by unfold fL;rw[aq (by omega),aB Ky,aq AL];rfl,hS,fun x hx=>hx⟩
theorem R4 (base:World) [dQ prog base] (ob:Nat) (lb:Option Addr) (lc:Nat) (cv fv:Value) (ls:List Lf) (ks:List LK) (ho:l_ base ob lb lc cv fv ls ks) (vs:Nat) (hG:iW ls vs) {K:Nat} (hK:rN ls K) (zp:K<1099511627776) (zs:Nat) (bb:Option Addr) (bc nk:Nat) (bh:List Nat) (hb:qP ls bh) (k:Nat) (hk:k<ls.length) (Ky:(lf ls k).op=0) (r:OB) (xR:gy ls k r.o) (f:Nat) (hL: ∀r2:OB,gy ls (k+1) r2.o→r5 base 115 [(eJ ob 0),(.pointer (aD zs)),vI ((k:Nat):Int),(.slice r2.b r2.o.length r2.c)] zs bb bc nk bh ls r2 (gm ls f bh k r2.o)) (cb:Option Addr) (cc:Nat) (l:List CR) (p:List OB) (hS:ml ls l p) (F1:nf p r):
  cx prog base 109 [(eJ ob 0),(.pointer (aD zs)),vI ((k:Nat):Int),(.slice r.b r.o.length r.c)] ([oI zs 122 [(.slice bb bh.length bc),(.slice cb l.length cc)],az cb cc 169 3 (dK l),az bb nk 3 1 (cm bh)]++gG 173 p) (fun v O'=> ∃wg wh l' p',v=.tuple #[]∧O'=[oI zs 122 [(.slice bb bh.length bc),(.slice wg l'.length wh)],az wg wh 169 3 (dK l'),az bb nk 3 1 (cm bh)]++gG 173 p'∧l'.map CR.cf=(fL ls (f+1) bh k r.o).foldl add (l.map CR.cf)∧ml ls l' p'∧(∀x∈p,x∈p')):=by
 refine aA func109 F ntmps109 F ?_
 have hv:=hG.kW hk
 have yr:=ez hv.toVal
 have T8:k<bh.length:=by rw[hb.len];exact hk
 have hbs:=hb.lt k hk
 have R3:gy ls (k+1) r.o:=xR.mono (Nat.le_succ k)
 refine bo bg (ae (cF gV F gY F F (a6 ho.bx) (by first|omega|(simp;done)|(simp;omega)|(simp_all;done)|(simp_all;omega))) (ae (dD fU F F ho.bx F) (ay (eF (i:=k) fU fG F F (a6 ho.rw) hk (by rw[ey ho.kl];omega)) (ae (fy [v8 ((lf ls k).op),vI (lf ls k).d.vars,vI (((lf ls k).d.start.toNat:Nat):Int),(.slice (lk ks k).k.nb ((lf ls k).d.next.length) ((lk ks k).k.nc)),(.slice (lk ks k).k.fb ((lf ls k).d.aT.length) ((lk ks k).k.fc)),(.slice (lk ks k).b ((lf ls k).fo.length) ((lk ks k).c)),.bool (lf ls k).la] ji F fG F F (bK _) (a6 ho.rw) (pK ho.kl hk hv.s0)) (ax (b_ fG (fun z1=>?_)))))))
 refine ax (c8 [v8 ((lf ls k).op),vI (lf ls k).d.vars,vI (((lf ls k).d.start.toNat:Nat):Int),(.slice (lk ks k).k.nb ((lf ls k).d.next.length) ((lk ks k).k.nc)),(.slice (lk ks k).k.fb ((lf ls k).d.aT.length) ((lk ks k).k.fc)),(.slice (lk ks k).b ((lf ls k).fo.length) ((lk ks k).c)),.bool (lf ls k).la] 0 fG ?_)
 refine bi (aK (aG (bu ji eN) (ae (bF 0 il) (ae (aY bN (by omega)) (aj (bf (br ?_)))))))
 refine fW [(0,0),(1,0),(2,0),(3,0),(4,0),(5,0),(6,0),(7,0),(8,0),(9,0),(10,0),(11,0),(12,0),(13,0),(14,0),(15,0),(16,0),(17,0)] ?_
 refine ap F (bu ji eN) (ap F (bF 0 il) (ap F (aY bN (by omega)) (ap F aw (aU F F F (aU F F F (aU F F F (aU F F F (aU F F F (aU F F F (aU F F F ?_))))))))))
 refine aU F F F (aU F F F (aU F F F (aU F F F (aU F F F (ap F bU (ap F cz ?_))))))
 refine cy ?_
 refine bf (aG (bu ji eN) (ae (bF 0 il) (ae (bn bN (by omega)) (aj ?_))))
 refine bW ?_
 refine a7 (aN (ay (bu ji bY) (ae (bu dm bM) (ae (bF 0 eO) (ay (dc [vI ((k:Nat):Int),vI (((lf ls k).d.start.toNat:Nat):Int),(.slice r.b r.o.length r.c)] CE jY (by kernel_rfl)) ?_)))))
 have NX:=WF base hG hK zp (eJ ob 0) zs bb bc bh [oI z1 118 [v8 ((lf ls k).op),vI (lf ls k).d.vars,vI (((lf ls k).d.start.toNat:Nat):Int),(.slice (lk ks k).k.nb ((lf ls k).d.next.length) ((lk ks k).k.nc)),(.slice (lk ks k).k.fb ((lf ls k).d.aT.length) ((lk ks k).k.fc)),(.slice (lk ks k).b ((lf ls k).fo.length) ((lk ks k).c)),.bool (lf ls k).la],az bb nk 3 1 (cm bh)] cb cc l p ⟨(k:Int),(lf ls k).d.start.toNat,r⟩ hS (.inr ⟨k,F,hk,yr,xR⟩) F1 (O:=[oI z1 118 [v8 ((lf ls k).op),vI (lf ls k).d.vars,vI (((lf ls k).d.start.toNat:Nat):Int),(.slice (lk ks k).k.nb ((lf ls k).d.next.length) ((lk ks k).k.nc)),(.slice (lk ks k).k.fb ((lf ls k).d.aT.length) ((lk ks k).k.fc)),(.slice (lk ks k).b ((lf ls k).fo.length) ((lk ks k).c)),.bool (lf ls k).la],oI zs 122 [(.slice bb bh.length bc),(.slice cb l.length cc)],az cb cc 169 3 (dK l),az bb nk 3 1 (cm bh)]) (by exact Sub.fz [oI z1 118 [v8 ((lf ls k).op),vI (lf ls k).d.vars,vI (((lf ls k).d.start.toNat:Nat):Int),(.slice (lk ks k).k.nb ((lf ls k).d.next.length) ((lk ks k).k.nc)),(.slice (lk ks k).k.fb ((lf ls k).d.aT.length) ((lk ks k).k.fc)),(.slice (lk ks k).b ((lf ls k).fo.length) ((lk ks k).c)),.bool (lf ls k).la]] _ (.fz [oI z1 118 [v8 ((lf ls k).op),vI (lf ls k).d.vars,vI (((lf ls k).d.start.toNat:Nat):Int),(.slice (lk ks k).k.nb ((lf ls k).d.next.length) ((lk ks k).k.nc)),(.slice (lk ks k).k.fb ((lf ls k).d.aT.length) ((lk ks k).k.fc)),(.slice (lk ks k).b ((lf ls k).fo.length) ((lk ks k).c)),.bool (lf ls k).la]] _ (.k (.k .z))))
 refine TO.lc G1 NX ?_
 clear NX
 rintro vr O' ⟨Ey,Ez,l4,rfl,rfl,WH,WI⟩
 refine bi (aG (bu ji bY) (ae (bu dm e7) (ae (bF 2 eS) (ae (bu ji bY) (ae (bu dm bM) (ae (bF 2 eO) (ae (dB (((lf ls k).d.start.toNat)) eS gq F F (a6 (ho.dk _ hk).aT) (by rw[hv.fin];exact yr) (by rw[ai,hv.fin];exact yr)) (aX (iN uT F F (a6 (ho.dk _ hk).aT) (qe hv yr)) (T.cond F (fun hc=>?_) (fun hc=>?_))))))))))
 ·have AL:dR (lf ls k).d (lf ls k).d.start.toNat=true:=hc
  refine a_ (de (de ?_))
  have aaF:=cx.sub (O':=[oI zs 122 [(.slice bb bh.length bc),(.slice Ey l4.length Ez)],az Ey Ez 169 3 (dK l4),az bb nk 3 1 (cm bh)]++gG 173 p) (O:=([oI zs 122 [(.slice bb bh.length bc),(.slice Ey l4.length Ez)],az Ey Ez 169 3 (dK l4),oI z1 118 [v8 ((lf ls k).op),vI (lf ls k).d.vars,vI (((lf ls k).d.start.toNat:Nat):Int),(.slice (lk ks k).k.nb ((lf ls k).d.next.length) ((lk ks k).k.nc)),(.slice (lk ks k).k.fb ((lf ls k).d.aT.length) ((lk ks k).k.fc)),(.slice (lk ks k).b ((lf ls k).fo.length) ((lk ks k).c)),.bool (lf ls k).la],az bb nk 3 1 (cm bh)]++(gG 173 p))) (by exact(by exact Sub.k (.k (.d (.k .rf))))) (hL r R3 Ey Ez l4 p WI F1)
  refine TO.lc CF aaF ?_
  clear aaF
  rintro vr O' ⟨RZ,R0,l3,p3,rfl,rfl,R1,LA,FY⟩
  refine bi (dS ?_)
  refine qS.zero results109 ?_
  exact⟨_,cd (aP _),RZ,R0,l3,p3,F,F,by rw[R1,WH];unfold fL;rw[aq (by omega),aq (by omega),aB AL];rfl,LA,FY⟩
 have AL: ¬dR (lf ls k).d (lf ls k).d.start.toNat=true:=by rw[hc];simp
 refine aE (dS ?_)
 refine qS.zero results109 ?_
 exact⟨[oI zs 122 [(.slice bb bh.length bc),(.slice Ey l4.length Ez)],az Ey Ez 169 3 (dK l4),az bb nk 3 1 (cm bh)]++gG 173 p,(by exact Sub.k (.k (.d (.k .rf)))),Ey,Ez,l4,p,F,F,by rw[WH];unfold fL;rw[aq (by omega),aq (by omega),aq AL];rfl,WI,fun x hx=>hx⟩
theorem G2 (base:World) [dQ prog base] (ob:Nat) (lb:Option Addr) (lc:Nat) (cv fv:Value) (ls:List Lf) (ks:List LK) (ho:l_ base ob lb lc cv fv ls ks) (vs:Nat) (hG:iW ls vs) {K:Nat} (hK:rN ls K) (zp:K<1099511627776) (zs:Nat) (bb:Option Addr) (bc nk:Nat) (bh:List Nat) (hb:qP ls bh): ∀f:Nat,
  (∀(k:Nat) (r:OB),k<ls.length→2*(ls.length-k)≤f→gy ls k r.o→r5 base 109 [(eJ ob 0),(.pointer (aD zs)),vI ((k:Nat):Int),(.slice r.b r.o.length r.c)] zs bb bc nk bh ls r (fL ls f bh k r.o))∧
  (∀(k:Nat) (r:OB),k<ls.length→2*(ls.length-k)≤f+1→gy ls (k+1) r.o→r5 base 115 [(eJ ob 0),(.pointer (aD zs)),vI ((k:Nat):Int),(.slice r.b r.o.length r.c)] zs bb bc nk bh ls r (gm ls f bh k r.o))
 |0=>⟨fun k r hk hf=>absurd hf (by omega),fun k r hk hf=>absurd hf (by omega)⟩
 |f+1=>by
  obtain⟨h1,h2⟩:=G2 base ob lb lc cv fv ls ks ho vs hG hK zp zs bb bc nk bh hb f
  refine⟨fun k r hk hf xR=>?_,fun k r hk hf xR=>?_⟩
  ·have hL: ∀r2:OB,gy ls (k+1) r2.o→r5 base 115 [(eJ ob 0),(.pointer (aD zs)),vI ((k:Nat):Int),(.slice r2.b r2.o.length r2.c)] zs bb bc nk bh ls r2 (gm ls f bh k r2.o):=fun r2 Od=>h2 k r2 hk (by omega) Od
   intro cb cc l p hS F1
   rcases hG.op _ (kX hk)with h|h|h
   ·exact R4 base ob lb lc cv fv ls ks ho vs hG hK zp zs bb bc nk bh hb k hk h r xR f hL cb cc l p hS F1
   ·exact WJ base ob lb lc cv fv ls ks ho vs hG hK zp zs bb bc nk bh hb k hk h r xR f hL cb cc l p hS F1
   ·exact WK base ob lb lc cv fv ls ks ho vs hG hK zp zs bb bc nk bh hb k hk h r xR f hL cb cc l p hS F1
  ·intro cb cc l p hS F1
   exact WG base ob lb lc cv fv ls ks ho vs hG hK zp zs bb bc nk bh hb k hk r (xR.mono hk) f (fun j hj=>h1 j r (hG.fo k hk j hj).2 (by have:=hG.fo k hk j hj;omega) (xR.mono (hG.fo k hk j hj).1)) cb cc l p hS F1
theorem aej (w:World) [dQ prog w] (p n x:Nat) (hp:p<256) (hn:n<256) (hx:x<256):
  cB prog 140 [.agg #[v8 p,v8 n],v8 x] w fun v N=>v=.bool (gl p n x)∧N=[]:=by
 refine aA func140 F ntmps140 F ?_
 refine aQ (ax (ef [v8 p,v8 n] (fun om=>?_)))
 refine aj (bo (bu l7 eN) (ae (bF 0 il) (ae (Bj (a:=x) (b:=p) .u8 F F (by show _<256;omega) (by show _<256;omega)) (ae (bu l7 eN) (ae (bF 0 il) (ae bN ?_))))))
 by_cases NH:((x&&&p:Nat):Int)=((p:Nat):Int)
 ·refine ae (bn aw NH) ?_
  refine ao aw (ao (bu l7 eN) (ao (bF 0 il) (ao (Bj (a:=x) (b:=n) .u8 F F (by show _<256;omega) (by show _<256;omega)) (ao bN (ae bw (aR ?_))))))
  refine aF (.bool (decide (((x&&&n:Nat):Int)=0))) results140 F ?_
  exact⟨[],cd (bV _),am Value.bool (Eq.symm (decide_eq_decide.2 (by omega))),F⟩
 refine ae (aY aw NH) (cY (du (ae bU (aR ?_))))
 refine aF (.bool false) results140 F ?_
 exact⟨[],cd (bV _),am Value.bool (Eq.symm (a8 (fun hm=>by omega))),F⟩
theorem Eo (A B X:List Lx.Item) (c:Lx.Item) (h:Sub (A++[c]) B):Sub (A++(X++[c])) (B++X):=by
 have:=rU A B X [] c h
 simpa using this
theorem aek (w:World) [dQ prog w] (cb:Nat) (eb:Option Addr) (en ec vs B:Nat) (e_:Sl w (aD cb) [.slice eb en ec,vI (vs:Int),vI (B:Int)]) (gS:vs≤6):
  cB prog 103 [(eJ cb 0)] w fun v N=> ∃nb nc fb fc qs,v=.agg (fe (gg (vs:Int) true) nb nc fb fc).toArray∧N=[az nb nc 56 1 (dO qs),az fb fc 4 1 (cO (gg (vs:Int) true).aT)]++cw 3 qs∧nums qs=(gg (vs:Int) true).next:=by
 refine aA func103 F ntmps103 F ?_
 obtain⟨L,hL⟩: ∃L,2^vs=L:=⟨_,F⟩
 have VU:L≤64:=by rw[←hL];exact ck (by decide) gS
 refine aQ (ax (b_ bY (fun om=>?_)))
 refine bi ?_
 refine fF (fun ρ O=> ∃(zA zB zC:Nat),O=[bJ zA L 3 1 (List.replicate L (vI 0)),bJ zB 1 56 1 [(.slice (aD zA) L L)],bJ zC 1 4 1 [.bool true],oI om 25 [vI ((vs:Nat):Int),(vI 0),(.slice (aD zB) 1 1),(.slice (aD zC) 1 1)]]∧dh [(0,(eJ cb 0)),(2,(.pointer (aD om)))] ρ) ?_ ?_
 ·refine pq [] 14 mixed F (by exact Sub.z) (fun _ _ _ _ h=>h) ?_
  refine cI 0 F (by kernel_rfl) aw ?_
  refine cI 1 F (by kernel_rfl) bg ?_
  refine cI 2 F (by kernel_rfl) (cF mj F bM F F (a6 e_) (by first|omega|(simp;done)|(simp;omega)|(simp_all;done)|(simp_all;omega))) ?_
  refine cI 3 F (by kernel_rfl) (dD eO F F e_ F) ?_
  refine cI 4 F (by kernel_rfl) aw ?_
  refine cI 5 F (by kernel_rfl) bg ?_
  refine cI 6 F (by kernel_rfl) (cF mj F bM F F (a6 e_) (by first|omega|(simp;done)|(simp;omega)|(simp_all;done)|(simp_all;omega))) ?_
  refine cI 7 F (by kernel_rfl) (dD eO F F e_ F) ?_
  refine cI 8 F (by kernel_rfl) (cg (o8 (v:=vs) F F (by omega)) (v':=vI ((L:Nat):Int)) (by rw[hL])) ?_
  refine cS [9,11] (by kernel_rfl) F ⟨⟨_,F,F,fg L da bM F F (by omega) (by omega) (fun zA=>⟨by exact Sub.z,?_⟩)⟩,⟨_,F,F,dL (v:=.bool true) eS gq F F F (fun zC=>⟨by exact Sub.z,?_⟩)⟩,trivial⟩
  ·refine cS [10,11] (by kernel_rfl) F ⟨⟨_,F,F,dL (v:=(.slice (aD zA) L L)) eY eo F F F (fun zB=>⟨by exact Sub.z,?_⟩)⟩,⟨_,F,F,dL (v:=.bool true) eS gq F F F (fun zC=>⟨by exact Sub.z,?_⟩)⟩,trivial⟩
   ·refine cS [11] (by kernel_rfl) F ⟨⟨_,F,F,dL (v:=.bool true) eS gq F F F (fun zC=>⟨by exact Sub.z,?_⟩)⟩,trivial⟩
    refine cI 12 F (by kernel_rfl) (dc [vI ((vs:Nat):Int),(vI 0),(.slice (aD zB) 1 1),(.slice (aD zC) 1 1)] kg bY (by kernel_rfl)) ?_
    refine cS [13] (by kernel_rfl) F ⟨⟨_,F,F,c8 [vI ((vs:Nat):Int),(vI 0),(.slice (aD zB) 1 1),(.slice (aD zC) 1 1)] 3 bY ⟨by exact Sub.z,?_⟩ F F F F⟩,trivial⟩
    exact im (by kernel_rfl) ⟨zA,zB,zC,F,⟨F,F,trivial⟩⟩ (by exact Sub.fz [bJ zC 1 4 1 [.bool true],bJ zB 1 56 1 [(.slice (aD zA) L L)]] _ (.fz [bJ zC 1 4 1 [.bool true]] _ (.k (.k .z))))
   refine cS [10] (by kernel_rfl) F ⟨⟨_,F,F,dL (v:=(.slice (aD zA) L L)) eY eo F F F (fun zB=>⟨by exact Sub.z,?_⟩)⟩,trivial⟩
   refine cI 12 F (by kernel_rfl) (dc [vI ((vs:Nat):Int),(vI 0),(.slice (aD zB) 1 1),(.slice (aD zC) 1 1)] kg bY (by kernel_rfl)) ?_
   refine cS [13] (by kernel_rfl) F ⟨⟨_,F,F,c8 [vI ((vs:Nat):Int),(vI 0),(.slice (aD zB) 1 1),(.slice (aD zC) 1 1)] 3 bY ⟨by exact Sub.z,?_⟩ F F F F⟩,trivial⟩
   exact im (by kernel_rfl) ⟨zA,zB,zC,F,⟨F,F,trivial⟩⟩ (by exact Sub.fz [bJ zB 1 56 1 [(.slice (aD zA) L L)],bJ zC 1 4 1 [.bool true]] _ (.k (.k (.k .z))))
  refine cS [9] (by kernel_rfl) F ⟨⟨_,F,F,fg L da bM F F (by omega) (by omega) (fun zA=>⟨by exact Sub.z,?_⟩)⟩,trivial⟩
  refine cS [10] (by kernel_rfl) F ⟨⟨_,F,F,dL (v:=(.slice (aD zA) L L)) eY eo F F F (fun zB=>⟨by exact Sub.z,?_⟩)⟩,trivial⟩
  refine cI 12 F (by kernel_rfl) (dc [vI ((vs:Nat):Int),(vI 0),(.slice (aD zB) 1 1),(.slice (aD zC) 1 1)] kg bY (by kernel_rfl)) ?_
  refine cS [13] (by kernel_rfl) F ⟨⟨_,F,F,c8 [vI ((vs:Nat):Int),(vI 0),(.slice (aD zB) 1 1),(.slice (aD zC) 1 1)] 3 bY ⟨by exact Sub.z,?_⟩ F F F F⟩,trivial⟩
  exact im (by kernel_rfl) ⟨zA,zB,zC,F,⟨F,F,trivial⟩⟩ (by exact Sub.fz [bJ zB 1 56 1 [(.slice (aD zA) L L)]] _ (.k (.k (.k .z))))
 rintro ρ O ⟨zA,zB,zC,rfl,hH⟩
 obtain⟨gv,rfl⟩:=hH.elim
 clear hH
 refine cM (dS ?_)
 refine cQ (i:=3) results103 dm F bY F F F ?_
 exact⟨[bJ zB 1 56 1 (dO [⟨(aD zA),L,List.replicate L 0⟩]),bJ zC 1 4 1 (cO [true])]++cw 3 [⟨(aD zA),L,List.replicate L 0⟩],by rw[show cw 3 [(⟨(aD zA),L,List.replicate L 0⟩:Rec)]=[bJ zA L 3 1 (List.replicate L (vI 0))] by simp[cw,Rec.qW],show dO [(⟨(aD zA),L,List.replicate L 0⟩:Rec)]=[(.slice (aD zA) L L)] by simp[Rec.val]];exact(by exact Sub.fz [bJ zA L 3 1 (List.replicate L (vI 0))] _ (.fz [bJ zA L 3 1 (List.replicate L (vI 0))] _ (.k .z))),(aD zB),1,(aD zC),1,[⟨(aD zA),L,List.replicate L 0⟩],F,F,by rw[←hL];rfl⟩
theorem QI (w:World) [dQ prog w] (cb:Nat) (eb:Option Addr) (en ec vs B:Nat) (e_:Sl w (aD cb) [.slice eb en ec,vI (vs:Int),vI (B:Int)]) (gS:vs≤6):
  cB prog 103 [(eJ cb 0)] w fun v N=> ∃k,v=dV (gg (vs:Int) true) k∧N=[dI 56 4 3 (gg (vs:Int) true) k]:=
 cx.dk (g:=id) (aek w cb eb en ec vs B e_ gS)
theorem NI (w:World) [dQ prog w] (cb:Nat) (eb:Option Addr) (en ec vs B:Nat) (e_:Sl w (aD cb) [.slice eb en ec,vI (vs:Int),vI (B:Int)]) (gS:vs≤6) (jA:1≤B) (hB:B≤4096) (n op pp pn:Nat) (pa pb:Int) (hn:n≤1) (Ra:pp<256) (mh:pn<256):
  dT prog w (.iface 163 (.agg #[])) 104 [(eJ cb 0),vI ((n:Nat):Int),(.agg #[v8 op,v8 pp,v8 pn,vI pa,vI pb])] [] (fun v N=> ∃M k',v=dV M k'∧N=[dI 56 4 3 M k']∧fV (vs:Int) B M (Kq n (gl pp pn))∧(jD (GN vs n (gl pp pn))).next.length≤B) (¬(jD (GN vs n (gl pp pn))).next.length≤B):=by
 refine ek func104 F ntmps104 F ?_
 obtain⟨L,hL⟩: ∃L,2^vs=L:=⟨_,F⟩
 have VU:L≤64:=by rw[←hL];exact ck (by decide) gS
 refine aQ (ax (ef [v8 op,v8 pp,v8 pn,vI pa,vI pb] (fun z1=>?_)))
 refine ax (b_ bY (fun z2=>?_))
 refine bi (bo (dj (b:=1) n F F (by omega)) (aj ?_))
 refine fF (fun ρ O=> ∃(zF zd:Nat),O=[bJ zF (n+2) 4 1 (List.replicate (n+2) (.bool false)),oI zd 25 [vI ((vs:Nat):Int),(vI 0),nS,(.slice (aD zF) (n+2) (n+2))],oI z2 25 [(vI 0),(vI 0),nS,nS],oI z1 72 [v8 op,v8 pp,v8 pn,vI pa,vI pb]]∧dh [(0,(eJ cb 0)),(1,vI ((n:Nat):Int)),(2,(.agg #[v8 op,v8 pp,v8 pn,vI pa,vI pb])),(5,(.pointer (aD z1))),(6,(.pointer (aD z2))),(7,vI ((n+1:Nat):Int)),(8,(.pointer (aD zd)))] ρ) ?_ ?_
 ·refine pq [] 10 mixed F (by exact Sub.z) (fun _ _ _ _ h=>h) ?_
  refine cI 0 F (by kernel_rfl) aw ?_
  refine cI 1 F (by kernel_rfl) bg ?_
  refine cI 2 F (by kernel_rfl) (cF mj F bM F F (a6 e_) (by first|omega|(simp;done)|(simp;omega)|(simp_all;done)|(simp_all;omega))) ?_
  refine cI 3 F (by kernel_rfl) (dD eO F F e_ F) ?_
  refine cI 4 F (by kernel_rfl) aw ?_
  refine cI 5 F (by kernel_rfl) (dj (b:=2) n F F (by omega)) ?_
  refine cS [6,8] (by kernel_rfl) F ⟨⟨_,F,F,fg (n+2) eS gq F F (by omega) (by omega) (fun zF=>⟨by exact Sub.z,?_⟩)⟩,⟨_,F,F,b_ bY (fun zd=>⟨by exact Sub.z,?_⟩)⟩,trivial⟩
  ·refine cI 7 F (by kernel_rfl) (dc [vI ((vs:Nat):Int),(vI 0),nS,(.slice (aD zF) (n+2) (n+2))] kg bY (by kernel_rfl)) ?_
   refine cS [8] (by kernel_rfl) F ⟨⟨_,F,F,b_ bY (fun zd=>⟨by exact Sub.z,?_⟩)⟩,trivial⟩
   refine cS [9] (by kernel_rfl) F ⟨⟨_,F,F,c8 [vI ((vs:Nat):Int),(vI 0),nS,(.slice (aD zF) (n+2) (n+2))] 0 bY ⟨by exact Sub.z,?_⟩ F F F F⟩,trivial⟩
   exact im (by kernel_rfl) ⟨zF,zd,F,(.of F)⟩ (by exact Sub.fz [oI zd 25 [vI ((vs:Nat):Int),(vI 0),nS,(.slice (aD zF) (n+2) (n+2))]] _ (.k (.k (.k .z))))
  refine cS [6] (by kernel_rfl) F ⟨⟨_,F,F,fg (n+2) eS gq F F (by omega) (by omega) (fun zF=>⟨by exact Sub.z,?_⟩)⟩,trivial⟩
  refine cI 7 F (by kernel_rfl) (dc [vI ((vs:Nat):Int),(vI 0),nS,(.slice (aD zF) (n+2) (n+2))] kg bY (by kernel_rfl)) ?_
  refine cS [9] (by kernel_rfl) F ⟨⟨_,F,F,c8 [vI ((vs:Nat):Int),(vI 0),nS,(.slice (aD zF) (n+2) (n+2))] 1 bY ⟨by exact Sub.z,?_⟩ F F F F⟩,trivial⟩
  exact im (by kernel_rfl) ⟨zF,zd,F,(.of F)⟩ (by exact Sub.rf)
 rintro ρ O ⟨zF,zd,rfl,hH⟩
 obtain⟨gv,rfl⟩:=hH.elim
 clear hH
 refine aG (bu dm e7) (ae (bF 1 eS) (ay (dB n eS gq F F (eA 0) (by omega) (by simp)) (ax (n7 (v:=.bool true) (vs:=[(.bool true)]) (cs:=List.replicate (n+2) (.bool false)) n 0 gq F F F F F (by simp) F (by simp;try omega) ?_))))
 refine dW (O':=[bJ zF (n+2) 4 1 ((List.replicate (n+2) (.bool false)).set n (.bool true)),oI zd 25 [vI ((vs:Nat):Int),(vI 0),nS,(.slice (aD zF) (n+2) (n+2))],oI z2 25 [(vI 0),(vI 0),nS,nS],oI z1 72 [v8 op,v8 pp,v8 pn,vI pa,vI pb]]) (by rw[show fC (List.replicate (n+2) (.bool false)) n [(.bool true)]=(List.replicate (n+2) (.bool false)).set n (.bool true)from(by simp[fC])];exact cd (aP _)) ?_
 refine bq (ay (dj (b:=2) n F F (by omega)) (bH (aK (T.fJ 56 1 ?_))))
 refine dq (O':=[az none 0 56 1 [],bJ zF (n+2) 4 1 ((List.replicate (n+2) (.bool false)).set n (.bool true)),oI zd 25 [vI ((vs:Nat):Int),(vI 0),nS,(.slice (aD zF) (n+2) (n+2))],oI z2 25 [(vI 0),(vI 0),nS,nS],oI z1 72 [v8 op,v8 pp,v8 pn,vI pa,vI pb]]++cw 3 []) ((cH [0,0,0,0,0])) ?_
 refine ep (fun(s:Nat) ρ O=> ∃(rq:List Rec) (ob:Option Addr) (oc:Nat),O=([az ob oc 56 1 (dO rq),bJ zF (n+2) 4 1 ((List.replicate (n+2) (.bool false)).set n (.bool true)),oI zd 25 [vI ((vs:Nat):Int),(vI 0),(.slice ob s oc),(.slice (aD zF) (n+2) (n+2))],oI z2 25 [(vI 0),(vI 0),nS,nS],oI z1 72 [v8 op,v8 pp,v8 pn,vI pa,vI pb]]++(cw 3 rq))∧s≤n+2∧nums rq=(List.range s).map (xe L n (gl pp pn))∧dh [(0,(eJ cb 0)),(1,vI ((n:Nat):Int)),(2,(.agg #[v8 op,v8 pp,v8 pn,vI pa,vI pb])),(5,(.pointer (aD z1))),(6,(.pointer (aD z2))),(7,vI ((n+1:Nat):Int)),(8,(.pointer (aD zd))),(27,vI ((n+2:Nat):Int)),(28,vI ((s:Nat):Int))] ρ) (fun s=>n+2-s) 0 ?_ ?_
 ·exact⟨[],none,0,F,by omega,F,(.of F)⟩
 rintro s ρ O ⟨rq,ob,oc,rfl,hs,hrq,hH⟩
 obtain⟨gv,rfl⟩:=hH.elim
 clear hH
 have L5:rq.length=s:=by have:=am List.length hrq;simpa using this
 refine aG cV (dJ (aL F (fun hc=>?_) (fun hc=>?_)))
 ·have aag:s<n+2:=by omega
  refine aE (br (aK (a7 (aj (bo bg (ae (cF mj F bM F F (a6 e_) (by first|omega|(simp;done)|(simp;omega)|(simp_all;done)|(simp_all;omega))) (ae (dD eO F F e_ F) (ae (cg (o8 (v:=vs) F F (by omega)) (v':=vI ((L:Nat):Int)) (by rw[hL])) (ax (fg L da bM F F (by omega) (by omega) (fun z3=>?_)))))))))))
  refine aS (bq (ay (cL da) (bH (aK ?_))))
  refine ep (fun(x:Nat) ρ O=> ∃(ys:List Int),O=([bJ z3 L 3 1 (ints ys),az ob oc 56 1 (dO rq),bJ zF (n+2) 4 1 ((List.replicate (n+2) (.bool false)).set n (.bool true)),oI zd 25 [vI ((vs:Nat):Int),(vI 0),(.slice ob s oc),(.slice (aD zF) (n+2) (n+2))],oI z2 25 [(vI 0),(vI 0),nS,nS],oI z1 72 [v8 op,v8 pp,v8 pn,vI pa,vI pb]]++(cw 3 rq))∧x≤L∧ys.length=L∧(∀i,i<x→ys[i]? =some (T1 n (gl pp pn) s i))∧dh [(0,(eJ cb 0)),(1,vI ((n:Nat):Int)),(2,(.agg #[v8 op,v8 pp,v8 pn,vI pa,vI pb])),(5,(.pointer (aD z1))),(6,(.pointer (aD z2))),(7,vI ((n+1:Nat):Int)),(8,(.pointer (aD zd))),(9,vI ((s:Nat):Int)),(10,(.slice (aD z3) L L)),(27,vI ((n+2:Nat):Int)),(28,vI ((s:Nat):Int)),(38,vI (L:Int)),(39,vI ((x:Nat):Int))] ρ) (fun x=>L-x) 0 ?_ ?_
  ·exact⟨List.replicate L 0,by simp,bj _,by simp,fun i hi=>absurd hi (by omega),(.of F)⟩
  rintro x ρ O ⟨ys,rfl,hx,Ee,AH,hH⟩
  obtain⟨gv,rfl⟩:=hH.elim
  clear hH
  refine aG cV (dJ (aL F (fun hc=>?_) (fun hc=>?_)))
  ·have zl:x<L:=by omega
   refine aE (br (aK (a7 (aj (a7 (aN (ay (dB x da bM F F (eA 0) (by omega) (by rw[ai];omega)) (ax (n7 (v:=vI ((n+1:Nat):Int)) (vs:=[(vI ((n+1:Nat):Int))]) (cs:=ints ys) x 0 bM F F F F F (by simp) F (by first|(simp;omega)|(simp_all;omega)) ?_)))))))))
   refine dW (O':=([bJ z3 L 3 1 (ints (ys.set x ((n+1:Nat):Int))),az ob oc 56 1 (dO rq),bJ zF (n+2) 4 1 ((List.replicate (n+2) (.bool false)).set n (.bool true)),oI zd 25 [vI ((vs:Nat):Int),(vI 0),(.slice ob s oc),(.slice (aD zF) (n+2) (n+2))],oI z2 25 [(vI 0),(vI 0),nS,nS],oI z1 72 [v8 op,v8 pp,v8 pn,vI pa,vI pb]]++(cw 3 rq))) (by rw[show fC (ints ys) x [(vI ((n+1:Nat):Int))]=ints (ys.set x ((n+1:Nat):Int))from(by simp[fC])];exact cd (aP _)) ?_
   refine bi (a7 (aN ?_))
   by_cases rQ:((s:Nat):Int)<((n:Nat):Int)
   ·refine ae (bn cV rQ) ?_
    refine aN (ao (bu dz eN) (ao (bF 5 il) (ao (bu dz eN) (ao (bF 5 il) (ao (dc [v8 pp,v8 pn] uV jX (by kernel_rfl)) (ao aw (ao (gi eO il F (rA (by omega))) ?_)))))))
    refine gF F F F (eh Wh (aO fun w1 hI=>(haveI:=eP hI;aej w1 pp pn x Ra mh (by omega))) ?_)
    rintro vr O' ⟨N,rfl,rfl,rfl⟩
    refine aX bw (T.cond F (fun hc=>?_) (fun hc=>?_))
    ·refine a_ ?_
     refine de (ay (dj (b:=1) s F F (by omega)) (ae (dB x da bM F F (eA 0) (by omega) (by first|(simp;done)|(simp;omega))) (ax (n7 (v:=vI ((s+1:Nat):Int)) (vs:=[(vI ((s+1:Nat):Int))]) (cs:=ints (ys.set x ((n+1:Nat):Int))) x 0 bM F F F F F (by simp) F (by first|(simp;omega)|(simp_all;omega)) ?_))))
     refine dW (O':=([bJ z3 L 3 1 (ints ((ys.set x ((n+1:Nat):Int)).set x ((s+1:Nat):Int))),az ob oc 56 1 (dO rq),bJ zF (n+2) 4 1 ((List.replicate (n+2) (.bool false)).set n (.bool true)),oI zd 25 [vI ((vs:Nat):Int),(vI 0),(.slice ob s oc),(.slice (aD zF) (n+2) (n+2))],oI z2 25 [(vI 0),(vI 0),nS,nS],oI z1 72 [v8 op,v8 pp,v8 pn,vI pa,vI pb]]++(cw 3 rq))) (by rw[show fC (ints (ys.set x ((n+1:Nat):Int))) x [(vI ((s+1:Nat):Int))]=ints ((ys.set x ((n+1:Nat):Int)).set x ((s+1:Nat):Int))from(by simp[fC])];exact cd (aP _)) ?_
     refine bi (a_ (ae (dj (b:=1) x F F (by omega)) (bH ?_)))
     have hv:T1 n (gl pp pn) s x=((s+1:Nat):Int):=aB ⟨by omega,by first|exact hc|simpa using hc⟩
     exact⟨x+1,by omega,([bJ z3 L 3 1 (ints ((ys.set x ((n+1:Nat):Int)).set x ((s+1:Nat):Int))),az ob oc 56 1 (dO rq),bJ zF (n+2) 4 1 ((List.replicate (n+2) (.bool false)).set n (.bool true)),oI zd 25 [vI ((vs:Nat):Int),(vI 0),(.slice ob s oc),(.slice (aD zF) (n+2) (n+2))],oI z2 25 [(vI 0),(vI 0),nS,nS],oI z1 72 [v8 op,v8 pp,v8 pn,vI pa,vI pb]]++(cw 3 rq)),(by exact Sub.rf),((ys.set x ((n+1:Nat):Int)).set x ((s+1:Nat):Int)),F,by omega,by simp[Ee],fun i hi=>by
      by_cases e:i=x
      ·subst e;rw[hv,List.getElem?_set_self (by first|omega|(simp;omega))]
      ·rw[List.getElem?_set_ne (fun h=>e h.symm)];first|exact AH i (by omega)|(rw[List.getElem?_set_ne (fun h=>e h.symm)];exact AH i (by omega)),(.of F)⟩
    refine aE (a_ (ae (dj (b:=1) x F F (by omega)) (bH ?_)))
    have hv:T1 n (gl pp pn) s x=((n+1:Nat):Int):=aq (fun h9=>by first|omega|(have h8:=h9.2;simp_all;done))
    exact⟨x+1,by omega,([bJ z3 L 3 1 (ints (ys.set x ((n+1:Nat):Int))),az ob oc 56 1 (dO rq),bJ zF (n+2) 4 1 ((List.replicate (n+2) (.bool false)).set n (.bool true)),oI zd 25 [vI ((vs:Nat):Int),(vI 0),(.slice ob s oc),(.slice (aD zF) (n+2) (n+2))],oI z2 25 [(vI 0),(vI 0),nS,nS],oI z1 72 [v8 op,v8 pp,v8 pn,vI pa,vI pb]]++(cw 3 rq)),(by exact Sub.rf),(ys.set x ((n+1:Nat):Int)),F,by omega,by simp[Ee],fun i hi=>by
     by_cases e:i=x
     ·subst e;rw[hv,List.getElem?_set_self (by first|omega|(simp;omega))]
     ·rw[List.getElem?_set_ne (fun h=>e h.symm)];first|exact AH i (by omega)|(rw[List.getElem?_set_ne (fun h=>e h.symm)];exact AH i (by omega)),(.of F)⟩
   refine ae (aY cV rQ) (aN (cY (cK (du ?_))))
   refine cY (aX bU (bf (aE (a_ (ae (dj (b:=1) x F F (by omega)) (bH ?_))))))
   have hv:T1 n (gl pp pn) s x=((n+1:Nat):Int):=aq (fun h9=>by first|omega|(have h8:=h9.2;simp_all;done))
   exact⟨x+1,by omega,([bJ z3 L 3 1 (ints (ys.set x ((n+1:Nat):Int))),az ob oc 56 1 (dO rq),bJ zF (n+2) 4 1 ((List.replicate (n+2) (.bool false)).set n (.bool true)),oI zd 25 [vI ((vs:Nat):Int),(vI 0),(.slice ob s oc),(.slice (aD zF) (n+2) (n+2))],oI z2 25 [(vI 0),(vI 0),nS,nS],oI z1 72 [v8 op,v8 pp,v8 pn,vI pa,vI pb]]++(cw 3 rq)),(by exact Sub.rf),(ys.set x ((n+1:Nat):Int)),F,by omega,by simp[Ee],fun i hi=>by
    by_cases e:i=x
    ·subst e;rw[hv,List.getElem?_set_self (by first|omega|(simp;omega))]
    ·rw[List.getElem?_set_ne (fun h=>e h.symm)];first|exact AH i (by omega)|(rw[List.getElem?_set_ne (fun h=>e h.symm)];exact AH i (by omega)),(.of F)⟩
  have T2: ¬x<L:=by omega
  refine cD ?_
  refine a_ (ae (bu dm fx) (ae (bF 3 eY) (aN (ax (dL (v:=(.slice (aD z3) L L)) eY eo F F F (fun z4=>?_))))))
  refine ax (dE 2 eY eY eo F F F F (by simp;omega) (by decide) (Src.row (j:=0) F (by simp)) (by simp[fS]) (by omega) (by decide) (by decide) (fun z5 T3=>?_))
  refine ae (bu dm fx) (ax (c8 [(.slice z5 (s+1) T3)] 4 fx ?_))
  refine bi ?_
  refine dq (O':=[az z5 T3 56 1 (dO (rq++[⟨(aD z3),L,ys⟩])),bJ zF (n+2) 4 1 ((List.replicate (n+2) (.bool false)).set n (.bool true)),oI zd 25 [vI ((vs:Nat):Int),(vI 0),(.slice z5 (s+1) T3),(.slice (aD zF) (n+2) (n+2))],oI z2 25 [(vI 0),(vI 0),nS,nS],oI z1 72 [v8 op,v8 pp,v8 pn,vI pa,vI pb]]++cw 3 (rq++[⟨(aD z3),L,ys⟩])) (by
   rw[show dO (rq++[⟨(aD z3),L,ys⟩])=(dO rq)++[(.slice (aD z3) L L)] by simp[Rec.val,Ee],show cw 3 (rq++[⟨(aD z3),L,ys⟩])=cw 3 rq++[bJ z3 L 3 1 (ints ys)] by simp[cw,Rec.qW]]
   exact Eo [az z5 T3 56 1 ((dO rq)++[(.slice (aD z3) L L)]),bJ zF (n+2) 4 1 ((List.replicate (n+2) (.bool false)).set n (.bool true)),oI zd 25 [vI ((vs:Nat):Int),(vI 0),(.slice z5 (s+1) T3),(.slice (aD zF) (n+2) (n+2))],oI z2 25 [(vI 0),(vI 0),nS,nS],oI z1 72 [v8 op,v8 pp,v8 pn,vI pa,vI pb]] [bJ z4 1 56 1 [(.slice (aD z3) L L)],bJ z3 L 3 1 (ints ys),az z5 T3 56 1 ((dO rq)++[(.slice (aD z3) L L)]),bJ zF (n+2) 4 1 ((List.replicate (n+2) (.bool false)).set n (.bool true)),oI zd 25 [vI ((vs:Nat):Int),(vI 0),(.slice z5 (s+1) T3),(.slice (aD zF) (n+2) (n+2))],oI z2 25 [(vI 0),(vI 0),nS,nS],oI z1 72 [v8 op,v8 pp,v8 pn,vI pa,vI pb]] (cw 3 rq) (bJ z3 L 3 1 (ints ys)) (by exact Sub.d (.fz [bJ z3 L 3 1 (ints ys)] _ (.fz [bJ z3 L 3 1 (ints ys)] _ (.fz [bJ z3 L 3 1 (ints ys)] _ (.fz [bJ z3 L 3 1 (ints ys)] _ (.fz [bJ z3 L 3 1 (ints ys)] _ (.k .z)))))))) ?_
  refine a_ (ae (dj (b:=1) s F F (by omega)) (bH ?_))
  have Cu:x=L:=by omega
  have VX:ys=xe L n (gl pp pn) s:=by
   apply List.ext_getElem?
   intro i
   by_cases hi:i<L
   ·rw[AH i (by omega)];simp only[xe];simp[hi]
   ·rw[cn (by omega),cn (by simp[xe];omega)]
  exact⟨s+1,by omega,_,cd (aP _),rq++[⟨(aD z3),L,ys⟩],z5,T3,F,by omega,by rw[List.range_succ,bm,←hrq];simp[nums,VX],(.of F)⟩
 have aah: ¬s<n+2:=by omega
 refine cD ?_
 refine br ?_
 have Nr:s=n+2:=by omega
 obtain⟨W,hW⟩: ∃W,W=GN vs n (gl pp pn):=⟨_,F⟩
 have Ik:HasL (vs:Int) 3 W (Kq n (gl pp pn)):=hW▸oU _ gS hn
 have e1:nums rq=W.next:=by rw[hW,hrq,Nr,←hL];rfl
 have e2:(List.replicate (n+2) (.bool false)).set n (.bool true)=cO W.aT:=by rw[hW];show _=cO ((List.replicate (n+2) false).set n true);simp
 have e3:(vs:Int)=W.vars:=by rw[hW];rfl
 have e4:(0:Int)=W.start:=by rw[hW];rfl
 have e5:s=W.next.length:=by rw[←e1,←L5];simp
 have e6:n+2=W.aT.length:=by rw[Ik.valid.fin,←e5,Nr]
 obtain⟨M,hM⟩: ∃m,jD W=m:=⟨_,F⟩
 have Qq:fV (vs:Int) 3 M (Kq n (gl pp pn)):=hM▸Ik.qJ
 obtain⟨z9,Z7⟩: ∃z:DK,z=⟨ob,oc,(aD zF),n+2,rq⟩:=⟨_,F⟩
 refine dq (O':=([az ob oc 56 1 (dO rq),bJ zF (n+2) 4 1 ((List.replicate (n+2) (.bool false)).set n (.bool true)),oI zd 25 [vI ((vs:Nat):Int),(vI 0),(.slice ob s oc),(.slice (aD zF) (n+2) (n+2))],oI z2 25 [(vI 0),(vI 0),nS,nS],oI z1 72 [v8 op,v8 pp,v8 pn,vI pa,vI pb]]++cw 3 rq)) Sub.rf ?_
 refine dq (O':=(([az ob oc 56 1 (dO rq),bJ zF (n+2) 4 1 (cO W.aT)]++cw 3 rq)++[oI zd 25 [(vI W.vars),(vI W.start),(.slice ob W.next.length oc),(.slice (aD zF) W.aT.length (n+2))],oI z2 25 [(vI 0),(vI 0),nS,nS],oI z1 72 [v8 op,v8 pp,v8 pn,vI pa,vI pb]])) (by rw[←e5,←e6,←e2,←e3,←e4];exact gR [az ob oc 56 1 (dO rq),bJ zF (n+2) 4 1 ((List.replicate (n+2) (.bool false)).set n (.bool true))] (cw 3 rq) [oI zd 25 [vI ((vs:Nat):Int),(vI 0),(.slice ob s oc),(.slice (aD zF) (n+2) (n+2))],oI z2 25 [(vI 0),(vI 0),nS,nS],oI z1 72 [v8 op,v8 pp,v8 pn,vI pa,vI pb]]) ?_
 refine uN (φ:=nums rq=W.next) e1 ?_
 refine dq (O':=[dI 56 4 3 W z9,oI zd 25 (dC W z9),oI z2 25 [(vI 0),(vI 0),nS,nS],oI z1 72 [v8 op,v8 pp,v8 pn,vI pa,vI pb]]) (by subst Z7;exact Sub.rf) ?_
 refine a_ (ay (eR 1 dm bY) (TO.lc Bs (aO fun w1 hI=>(haveI:=eP hI;Bt w1 W z9 (hI.at (k:=z9) (mG 0)) Ik.valid (by have:=Ik.valid.n4;omega) (M:=M) hM)) ?_))
 rintro vr O' ⟨N,rfl,k9,rfl,rfl⟩
 refine ae (bI _) (ae (bI _) ?_)
 have aai:=fun(w1:World) (hI:Inv w [dI 56 4 3 M k9,dI 56 4 3 W z9,oI zd 25 (dC W z9),oI z2 25 [(vI 0),(vI 0),nS,nS],oI z1 72 [v8 op,v8 pp,v8 pn,vI pa,vI pb]] w1)=>(haveI:=eP hI;oo w1 cb eb en ec vs B (hI.sl e_) M k9 0)
 refine eU F (fD tV (dT.pure aai) F (fun z _=>⟨F,fun h9=>z ⟨F,hM▸hW▸h9⟩⟩) ?_)
 clear aai
 rintro vr O' ⟨N,rfl,rfl,rfl,_,AI⟩
 refine ax (c8 ((dC M k9)) 3 bY ?_)
 refine dP ?_
 refine cQ (i:=3) results104 dm F bY F F F ?_
 exact⟨[dI 56 4 3 M k9],(by exact Sub.k .z),M,k9,F,F,⟨Qq.toHasL.le AI,Qq.min⟩,by rw[←hW,hM];exact AI⟩
end Go.Proofs.YtgdbfideeeegmaaGreatDoor


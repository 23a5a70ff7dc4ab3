/- Contracts of functions; conditions: those each theorem names. -/
import Derived.Test.YtgdbfideeeegmaaGreatDoorA6
set_option linter.unusedSectionVars false
set_option linter.unusedSimpArgs false
set_option linter.unusedVariables false
set_option linter.unnecessarySimpa false
set_option maxHeartbeats 8000000
set_option maxRecDepth 20000
namespace Go.Proofs.YtgdbfideeeegmaaGreatDoor
open Go.Lx Go.RowKit _root_.Go.Proofs.Tryz
theorem GI (w:World) [dQ prog w] (cb:Nat) (eb:Option Addr) (en ec vs B L:Nat) (e_:Sl w (aD cb) [.slice eb en ec,vI (vs:Int),vI (B:Int)]) (gS:vs≤6) (hL:2^vs=L) (jA:1≤B) (hB:B≤4096)
  (tr:Key→Nat→Key) (fin:Key→Bool) (start:Key) (Rp:Key→SR→Prop) (r0:SR) (fk fn ff:Value) (Kl:Rp start r0) (Yp:r0.lX=[]) (uH: ∀k r,Rp k r→fS r.a=true∧fS r.b=true)
  (Ec: ∀w1 k r,Inv w [] w1→Rp k r→(∀it∈r.lX,it.P w1)→fh prog w1 fk [r.a] [] (fun v O'=>v=str k∧O'=[]))
  (fN: ∀w1 k r x,Inv w [] w1→Rp k r→(∀it∈r.lX,it.P w1)→x<L→fh prog w1 fn [r.a,.int .u8 (x:Int)] [] (fun v N=> ∃r',v=r'.a∧N=r'.lX∧Rp (tr k x) r'))
  (Cs: ∀w1 k r,Inv w [] w1→Rp k r→(∀it∈r.lX,it.P w1)→fh prog w1 ff [r.a] [] (fun v O'=>v=.bool (fin k)∧O'=[])):
  dT prog w (.iface 163 (.agg #[])) 141 [(eJ cb 0),r0.a,fk,fn,ff] [] (fun v N=> ∃M k',v=dV M k'∧N=[dI 56 4 3 M k']∧fV (vs:Int) B M (fun u=>fin (u.foldl tr start))∧Ih tr L start B) (¬Ih tr L start B):=by
 refine ek func141 F ntmps141 F ?_
 have VU:L≤64:=by rw[←hL];exact ck (by decide) gS
 obtain⟨ha0,J2⟩:=uH _ _ Kl
 refine aQ (ax (b_ bY (fun z1=>?_)))
 refine bi (a7 (ax (dL (v:=r0.a) eY eo F F ha0 (fun z2=>?_))))
 refine aj (aQ (ax (mA str (fun n:Nat=>Value.int .i64 (n:Int)) (fun m3=>?_))))
 refine de ?_
 have rS:=(eK (O:=[dZ str (fun n:Nat=>Value.int .i64 (n:Int)) m3 [],bJ z2 1 56 1 [r0.a],oI z1 25 [(vI 0),(vI 0),nS,nS]]) fun w1 hI=>haveI:=eP hI;Ec w1 start r0 hI.oE Kl (by rw[Yp];simp))
 refine ax (fT rS F F ?_)
 clear rS
 rintro vr O' ⟨N,rfl,rfl,rfl⟩
 refine ax (gA (a:=start) (v:=(0:Nat)) 0 jo (ie.string wZ) F F F F (by simp) ?_)
 refine aN (aj (bo bg (ae (cF mj F bM F F (a6 e_) (by first|omega|(simp;done)|(simp;omega)|(simp_all;done)|(simp_all;omega))) (ae (dD eO F F e_ F) (ae (dc [vN vs,(vI 0),nS,nS] kg bY (by kernel_rfl)) (ax (b_ bY (fun z4=>?_))))))))
 refine ax (c8 [vN vs,(vI 0),nS,nS] 0 bY ?_)
 refine bq (aj (aK (T.fJ 4 1 ?_)))
 refine T.fJ 56 1 ?_
 refine dq (O':=[bJ z2 1 56 1 (fq c1 [r0]),dZ str (fun n:Nat=>Value.int .i64 (n:Int)) m3 [start].zipIdx,az none 0 56 1 (dO []),az none 0 4 1 (cO []),oI z4 25 [vN vs,(vI 0),nS,nS],oI z1 25 [(vI 0),(vI 0),nS,nS]]++(cw 3 []++j5 [r0])) (by rw[show j5 [r0]=[] by simp[j5,Yp]];exact(cH [4,3,0,0,0,0])) ?_
 refine ep (fun(s:Nat) ρ O=> ∃(ks:List Key) (qs:List SR) (rq:List Rec) (sb ob fb:Option Addr) (sc oc fc:Nat),O=([az sb sc 56 1 (fq c1 qs),dZ str (fun n:Nat=>Value.int .i64 (n:Int)) m3 ks.zipIdx,az ob oc 56 1 (dO rq),az fb fc 4 1 (cO ((ks.take s).map fin)),oI z4 25 [vN vs,(vI 0),(.slice ob s oc),(.slice fb s fc)],oI z1 25 [(vI 0),(vI 0),nS,nS]]++(cw 3 rq++j5 qs))∧zg tr L start s=ks∧Ed tr L start ks∧Nj Rp ks qs∧ks.length≤B∧rT tr L ks s (nums rq)∧dh [(0,(eJ cb 0)),(1,r0.a),(2,fk),(3,fn),(4,ff),(10,(.pointer (aD z1))),(11,(.slice sb qs.length sc)),(12,(.map (some m3))),(13,(.pointer (aD z4))),(14,vN s)] ρ) (fun s=>B-s) 0 ?_ ?_
 ·exact⟨[start],[r0],[],(aD z2),none,none,1,0,0,F,F,Ed.one _ _ _,Nj.one Kl,by simpa using jA,⟨F,bj _,fun i hi=>absurd hi (by omega),fun i hi=>absurd hi (by omega)⟩,(.of F)⟩
 rintro s ρ O ⟨ks,qs,rq,sb,ob,fb,sc,oc,fc,rfl,pu,hF,hR,RM,hE,hH⟩
 obtain⟨gv,rfl⟩:=hH.elim
 clear hH
 have Kb:=hR.1
 have L5:rq.length=s:=by have:=hE.len;simpa using this
 have Qj:=hE.le
 refine br (a7 (ay (cL eY) (aX cV (aL F (fun hc=>?_) (fun hc=>?_)))))
 ·have DN:s<qs.length:=by omega
  have VV:s<ks.length:=by omega
  refine aE (br (aK (bo bg (ae (cF mj F bM F F (a6 e_) (by first|omega|(simp;done)|(simp;omega)|(simp_all;done)|(simp_all;omega))) (ae (dD eO F F e_ F) (ae (cg (o8 (v:=vs) F F (by omega)) (v':=vN L) (by rw[hL])) (ax (fg L da bM F F (by omega) (by omega) (fun z5=>?_)))))))))
  refine aS (bq (ay (cL da) (bH (aK ?_))))
  refine ep (fun(x:Nat) ρ O=> ∃(fK:List Key) (iX:List SR) (ys:List Int) (tb:Option Addr) (tc:Nat),O=([bJ z5 L 3 1 (ints ys),az tb tc 56 1 (fq c1 iX),dZ str (fun n:Nat=>Value.int .i64 (n:Int)) m3 fK.zipIdx,az ob oc 56 1 (dO rq),az fb fc 4 1 (cO ((ks.take s).map fin)),oI z4 25 [vN vs,(vI 0),(.slice ob s oc),(.slice fb s fc)],oI z1 25 [(vI 0),(vI 0),nS,nS]]++(cw 3 rq++j5 iX))∧x≤L∧ys.length=L∧Ed tr L start fK∧Nj Rp fK iX∧fK.length≤B∧fK=((List.range x).map (tr (ks.getD s []))).foldl add ks∧(∀i,i<x→ys[i]? =some ((ix (tr (ks.getD s []) i) fK:Nat):Int))∧dh [(0,(eJ cb 0)),(1,r0.a),(2,fk),(3,fn),(4,ff),(10,(.pointer (aD z1))),(11,(.slice tb iX.length tc)),(12,(.map (some m3))),(13,(.pointer (aD z4))),(14,vN s),(15,(.slice (aD z5) L L)),(45,vI (L:Int)),(46,vN x)] ρ) (fun x=>L-x) 0 ?_ ?_
  ·exact⟨ks,qs,List.replicate L 0,sb,sc,by simp,bj _,by simp,hF,hR,RM,F,fun i hi=>absurd hi (by omega),(.of F)⟩
  rintro x ρ O ⟨fK,iX,ys,tb,tc,rfl,hx,Ee,Lu,Aq,Nk,qU,AH,hH⟩
  obtain⟨gv,rfl⟩:=hH.elim
  clear hH
  have v_:ks<+:fK:=qU▸ig _ _
  have tU:fK.getD s []=ks.getD s []:=na v_ VV
  have Z3:=v_.length_le
  have Nl:=Aq.1
  have xC:s<iX.length:=by omega
  have VW:=Aq.2 s xC
  rw[tU]at VW
  refine aG cV (dJ (aL F (fun hc=>?_) (fun hc=>?_)))
  ·have MN:x<L:=by omega
   have Nn:x<L:=by omega
   have Qp:ks.getD s []∈fK:=by rw[←tU,au,ak (by omega),Option.getD_some];exact av _
   refine aE (br (aK (a7 (aj (a7 (aN (ay (dB s eY eo F F (eA 1) xC (by rw[lD (f:=c1) (n:=1) (fun _=>rfl)];omega)) (ae (iN da F F (eA 1) (TW xC)) (ay (gi eO il F (rA (by omega))) ?_)))))))))
   have No:=(eK (O:=([bJ z5 L 3 1 (ints ys),az tb tc 56 1 (fq c1 iX),dZ str (fun n:Nat=>Value.int .i64 (n:Int)) m3 fK.zipIdx,az ob oc 56 1 (dO rq),az fb fc 4 1 (cO ((ks.take s).map fin)),oI z4 25 [vN vs,(vI 0),(.slice ob s oc),(.slice fb s fc)],oI z1 25 [(vI 0),(vI 0),nS,nS]]++(cw 3 rq++j5 iX))) fun w1 hI=>haveI:=eP hI;fN w1 (ks.getD s []) iX[s] x hI.oE VW (fun it gf=>hI.holds it (ah _ (ah _ (u7 xC gf)))) Nn)
   refine ax (fT No F F ?_)
   clear No
   rintro vr O' ⟨N9,rfl,r9,rfl,rfl,Np⟩
   obtain⟨Nq,hb9⟩:=uH _ _ Np
   refine dW (O':=([bJ z5 L 3 1 (ints ys),az tb tc 56 1 (fq c1 iX),dZ str (fun n:Nat=>Value.int .i64 (n:Int)) m3 fK.zipIdx,az ob oc 56 1 (dO rq),az fb fc 4 1 (cO ((ks.take s).map fin)),oI z4 25 [vN vs,(vI 0),(.slice ob s oc),(.slice fb s fc)],oI z1 25 [(vI 0),(vI 0),nS,nS]]++(r9.lX++(cw 3 rq++j5 iX)))) (by exact gh [] _ r9.lX (cw 3 rq++j5 iX)) ?_
   refine aj (a7 (de ?_))
   have D6:=(eK (O:=([bJ z5 L 3 1 (ints ys),az tb tc 56 1 (fq c1 iX),dZ str (fun n:Nat=>Value.int .i64 (n:Int)) m3 fK.zipIdx,az ob oc 56 1 (dO rq),az fb fc 4 1 (cO ((ks.take s).map fin)),oI z4 25 [vN vs,(vI 0),(.slice ob s oc),(.slice fb s fc)],oI z1 25 [(vI 0),(vI 0),nS,nS]]++(r9.lX++(cw 3 rq++j5 iX)))) fun w1 hI=>haveI:=eP hI;Ec w1 (tr (ks.getD s []) x) r9 hI.oE Np (fun it gf=>hI.holds it (ah _ (aH _ gf))))
   refine ax (fT D6 F F ?_)
   clear D6
   rintro vr O' ⟨N,rfl,rfl,rfl⟩
   refine ae (cg (kF (a:=tr (ks.getD s []) x) jo bM (ie.string wZ) F F (mG 2)) (v':=(.tuple #[vN (if tr (ks.getD s []) x∈fK then ix (tr (ks.getD s []) x) fK else 0),.bool (decide (tr (ks.getD s []) x∈fK))])) (by rw[l8];generalize tr (ks.getD s []) x=k9;by_cases h9:k9∈fK<;>simp[h9])) (ay (bI _) (ae (bI _) (aS (aS (bq (aN (aX g_ (T.cond F (fun hc=>?_) (fun hc=>?_)))))))))
   ·have Km:tr (ks.getD s []) x∉fK:=by simpa using hc
    have nq:=Ii Km
    refine bo (cL eY) (aj (a7 (de ?_)))
    have Ef:=(eK (O:=([bJ z5 L 3 1 (ints ys),az tb tc 56 1 (fq c1 iX),dZ str (fun n:Nat=>Value.int .i64 (n:Int)) m3 fK.zipIdx,az ob oc 56 1 (dO rq),az fb fc 4 1 (cO ((ks.take s).map fin)),oI z4 25 [vN vs,(vI 0),(.slice ob s oc),(.slice fb s fc)],oI z1 25 [(vI 0),(vI 0),nS,nS]]++(r9.lX++(cw 3 rq++j5 iX)))) fun w1 hI=>haveI:=eP hI;Ec w1 (tr (ks.getD s []) x) r9 hI.oE Np (fun it gf=>hI.holds it (ah _ (aH _ gf))))
    refine ax (fT Ef F F ?_)
    clear Ef
    rintro vr O' ⟨N,rfl,rfl,rfl⟩
    refine aN (ax (rz (a:=tr (ks.getD s []) x) (v:=iX.length) 2 jo (ie.string wZ) F F F F (by rw[nX];exact Km) ?_))
    refine bi (a7 (aN (ax (dL (v:=r9.a) eY eo F F Nq (fun z6=>?_)))))
    refine ax (dE 2 eY eY eo F F F F (by rw[lD (f:=c1) (n:=1) (fun _=>rfl)]) (by decide) (Src.row (j:=0) F (by simp)) (by simp[Nq]) (by omega) (by decide) (by decide) (fun z7 DZ=>?_))
    refine aj (a7 (ay bg (ae (cF mj F bM F F (a6 e_) (by first|omega|(simp;done)|(simp;omega)|(simp_all;done)|(simp_all;omega))) (ae (dD eO F F e_ F) (aX km (aL F (fun hc=>?_) (fun hc=>?_)))))))
    ·have Z4:iX.length≥B:=by omega
     refine a_ (ae (dc _ xW Cp F) (ae (sL Ie F) ?_))
     exact eU F (xX F (fun _=>⟨F,(Lu.add Qp Nn).Z5 (by rw[nq];simp;omega)⟩))
    have Z6: ¬iX.length≥B:=by omega
    refine aE (a_ (de (ay (dB x da bM F F (eA 1) (by omega) (by rw[ai];omega)) (ax (n7 (v:=vI (iX.length:Int)) (vs:=[(vI (iX.length:Int))]) (cs:=ints ys) x 1 bM F F F F F (by simp) F (by first|(simp;omega)|(simp_all;omega)) ?_)))))
    refine dW (O':=([bJ z6 1 56 1 [r9.a],bJ z5 L 3 1 (ints (ys.set x ((ix (tr (ks.getD s []) x) (add fK (tr (ks.getD s []) x)):Nat):Int))),az z7 DZ 56 1 ((fq c1 iX)++[r9.a]),dZ str (fun n:Nat=>Value.int .i64 (n:Int)) m3 (fK.zipIdx++[(tr (ks.getD s []) x,iX.length)]),az ob oc 56 1 (dO rq),az fb fc 4 1 (cO ((ks.take s).map fin)),oI z4 25 [vN vs,(vI 0),(.slice ob s oc),(.slice fb s fc)],oI z1 25 [(vI 0),(vI 0),nS,nS]]++(r9.lX++(cw 3 rq++j5 iX)))) (by rw[show fC (ints ys) x [(vI (iX.length:Int))]=ints (ys.set x ((ix (tr (ks.getD s []) x) (add fK (tr (ks.getD s []) x)):Nat):Int))from(by rw[nq,gr Km,show ix (tr (ks.getD s []) x) [tr (ks.getD s []) x]=0 by simp[ix],Nat.add_zero,←Nl];simp[fC])];exact cd (aP _)) ?_
    refine bi (a_ (ae (dj (b:=1) x F F (by omega)) (bH ?_)))
    have GG: ∀y,y<x→tr (ks.getD s []) y∈fK:=fun y hy=>by rw[qU,et];exact .inr (List.mem_map_of_mem (List.mem_range.2 hy))
    have GH: ∀i,i<x+1→(ys.set x ((ix (tr (ks.getD s []) x) (add fK (tr (ks.getD s []) x)):Nat):Int))[i]? =some ((ix (tr (ks.getD s []) i) (add fK (tr (ks.getD s []) x)):Nat):Int):=fun i hi=>by
     by_cases e:i=x
     ·subst e;rw[List.getElem?_set_self (by omega)]
     ·rw[List.getElem?_set_ne (fun h=>e h.symm),AH i (by omega),iM (kH _ _) (GG i (by omega))]
    have Bu:=Aq.snoc Np
    rw[←nq]at Bu
    have hF3:=Lu.add Qp Nn
    exact⟨x+1,by omega,[bJ z5 L 3 1 (ints (ys.set x ((ix (tr (ks.getD s []) x) (add fK (tr (ks.getD s []) x)):Nat):Int))),az z7 DZ 56 1 (fq c1 (iX++[r9])),dZ str (fun n:Nat=>Value.int .i64 (n:Int)) m3 ((add fK (tr (ks.getD s []) x)).zipIdx),az ob oc 56 1 (dO rq),az fb fc 4 1 (cO ((ks.take s).map fin)),oI z4 25 [vN vs,(vI 0),(.slice ob s oc),(.slice fb s fc)],oI z1 25 [(vI 0),(vI 0),nS,nS]]++(cw 3 rq++j5 (iX++[r9])),(by rw[Bv,w7,nq,show(fK++[tr (ks.getD s []) x]).zipIdx=fK.zipIdx++[(tr (ks.getD s []) x,iX.length)] by rw[List.zipIdx_append,Nl];simp];exact zh _ _ _ _ _ (by exact Sub.d (.k (.k (.k (.k (.k (.k (.k .z))))))))),add fK (tr (ks.getD s []) x),iX++[r9],_,z7,DZ,F,by omega,by simp[Ee],hF3,Bu,by rw[nq];simp;omega,by rw[jK,←qU],GH,⟨F,F,F,F,F,F,(show Value.slice z7 (iX.length+1) DZ=_ by rw[aJ];rfl),F,F,F,F,F,F,trivial⟩⟩
   have Km:tr (ks.getD s []) x∈fK:=by simpa using hc
   have nq:=Ij Km
   refine aE (a_ (de (ay (dB x da bM F F (eA 0) (by omega) (by rw[ai];omega)) (ax (n7 (v:=vN (if tr (ks.getD s []) x∈fK then ix (tr (ks.getD s []) x) fK else 0)) (vs:=[(vN (if tr (ks.getD s []) x∈fK then ix (tr (ks.getD s []) x) fK else 0))]) (cs:=ints ys) x 0 bM F F F F F (by simp) F (by first|(simp;omega)|(simp_all;omega)) ?_)))))
   refine dW (O':=([bJ z5 L 3 1 (ints (ys.set x ((ix (tr (ks.getD s []) x) (add fK (tr (ks.getD s []) x)):Nat):Int))),az tb tc 56 1 (fq c1 iX),dZ str (fun n:Nat=>Value.int .i64 (n:Int)) m3 fK.zipIdx,az ob oc 56 1 (dO rq),az fb fc 4 1 (cO ((ks.take s).map fin)),oI z4 25 [vN vs,(vI 0),(.slice ob s oc),(.slice fb s fc)],oI z1 25 [(vI 0),(vI 0),nS,nS]]++(r9.lX++(cw 3 rq++j5 iX)))) (by rw[show fC (ints ys) x [(vN (if tr (ks.getD s []) x∈fK then ix (tr (ks.getD s []) x) fK else 0))]=ints (ys.set x ((ix (tr (ks.getD s []) x) (add fK (tr (ks.getD s []) x)):Nat):Int))from(by rw[nq,aB Km];simp[fC])];exact cd (aP _)) ?_
   refine bi (a_ (ae (dj (b:=1) x F F (by omega)) (bH ?_)))
   have GG: ∀y,y<x→tr (ks.getD s []) y∈fK:=fun y hy=>by rw[qU,et];exact .inr (List.mem_map_of_mem (List.mem_range.2 hy))
   have GH: ∀i,i<x+1→(ys.set x ((ix (tr (ks.getD s []) x) (add fK (tr (ks.getD s []) x)):Nat):Int))[i]? =some ((ix (tr (ks.getD s []) i) (add fK (tr (ks.getD s []) x)):Nat):Int):=fun i hi=>by
    by_cases e:i=x
    ·subst e;rw[List.getElem?_set_self (by omega)]
    ·rw[List.getElem?_set_ne (fun h=>e h.symm),AH i (by omega),iM (kH _ _) (GG i (by omega))]
   have Bu:=Aq
   rw[←nq]at Bu
   exact⟨x+1,by omega,[bJ z5 L 3 1 (ints (ys.set x ((ix (tr (ks.getD s []) x) (add fK (tr (ks.getD s []) x)):Nat):Int))),az tb tc 56 1 (fq c1 iX),dZ str (fun n:Nat=>Value.int .i64 (n:Int)) m3 ((add fK (tr (ks.getD s []) x)).zipIdx),az ob oc 56 1 (dO rq),az fb fc 4 1 (cO ((ks.take s).map fin)),oI z4 25 [vN vs,(vI 0),(.slice ob s oc),(.slice fb s fc)],oI z1 25 [(vI 0),(vI 0),nS,nS]]++(cw 3 rq++j5 iX),(by rw[nq];exact fP _ _ _ _ (by exact Sub.rf)),add fK (tr (ks.getD s []) x),iX,_,tb,tc,F,by omega,by simp[Ee],Lu.add Qp Nn,Bu,by rw[nq];exact Nk,by rw[jK,←qU],GH,(.of F)⟩
  have MT: ¬x<L:=by omega
  refine cD ?_
  refine T.ds [az tb tc 56 1 (fq c1 iX),oI z4 25 [vN vs,(vI 0),(.slice ob s oc),(.slice fb s fc)]] [(0,0),(1,0),(2,0),(5,0),(6,0),(7,0),(8,0),(9,0),(10,0),(11,0),(3,1),(4,1),(15,0),(12,1),(13,1),(14,1),(16,2),(17,2),(18,2)] (by exact Sub.d (.k (.d (.d (.d (.k .z)))))) ?_
  refine ap F (bu dm fx) (ap F (bF 1 eY) (ap F aw (ap F (bu dm e7) (ap F (bF 1 eS) (ap F aw (ap F aw (ap F aw (ap F (dB s eY eo F F (eA 0) xC (by rw[lD (f:=c1) (n:=1) (fun _=>rfl)];omega)) (ap F (iN da F F (eA 0) (TW xC)) ?_)))))))))
  refine cG F F (dL (v:=(.slice (aD z5) L L)) eY eo F F F (fun z9=>⟨by exact Sub.d (.d (.k (.d (.d (.d (.k .z)))))),?_⟩))
  refine cG F F (dE 4 eY eY eo F F F F (by simp;omega) (by decide) (Src.row (j:=0) F (by simp)) (by simp[fS]) (by omega) (by decide) (by decide) (fun xV rV=>⟨by exact Sub.d (.d (.k (.d (.d (.d (.k .z)))))),?_⟩))
  refine ap F (bu dm fx) ?_
  have Eg:=(eK (O:=([bJ z9 1 56 1 [(.slice (aD z5) L L)],bJ z5 L 3 1 (ints ys),az tb tc 56 1 (fq c1 iX),dZ str (fun n:Nat=>Value.int .i64 (n:Int)) m3 fK.zipIdx,az xV rV 56 1 ((dO rq)++[(.slice (aD z5) L L)]),az fb fc 4 1 (cO ((ks.take s).map fin)),oI z4 25 [vN vs,(vI 0),(.slice ob s oc),(.slice fb s fc)],oI z1 25 [(vI 0),(vI 0),nS,nS]]++(cw 3 rq++j5 iX))) fun w1 hI=>haveI:=eP hI;Cs w1 (ks.getD s []) iX[s] hI.oE VW (fun it gf=>hI.holds it (ah _ (ah _ (u7 xC gf)))))
  refine cG F F (fT Eg F F ?_)
  clear Eg
  rintro vr O' ⟨N,rfl,rfl,rfl⟩
  refine⟨by exact Sub.d (.d (.k (.d (.d (.d (.k .z)))))),?_⟩
  refine cG F F (dL (v:=.bool (fin (ks.getD s []))) eS gq F F F (fun z12=>⟨by exact Sub.d (.d (.d (.k (.d (.d (.d (.k .z))))))),?_⟩))
  refine cG F F (dE 6 eS eS gq F F F F (by simp;omega) (by decide) (Src.row (j:=0) F (by simp)) (by simp[fS]) (by omega) (by decide) (by decide) (fun sH td=>⟨by exact Sub.d (.d (.d (.k (.d (.d (.d (.k .z))))))),?_⟩))
  refine cA F F (c8 [(.slice xV (s+1) rV)] 7 fx ?_)
  refine cA F F (eV F F (bu dm e7) ?_)
  refine cA F F (c8 [(.slice sH (s+1) td)] 7 e7 ?_)
  refine cy ?_
  have oF:cO ((fK.take (s+1)).map fin)=cO ((ks.take s).map fin)++[.bool (fin (ks.getD s []))]:=by
   rw[aC (by omega:s<fK.length),bm,show fK.take s=ks.take s by obtain⟨t9,rfl⟩:=v_;rw[List.take_append_of_le_length (by omega)],←tU,show fK.getD s []=fK[s] by rw[au,ak (by omega),Option.getD_some]]
   simp
  refine dq (O':=[az tb tc 56 1 (fq c1 iX),dZ str (fun n:Nat=>Value.int .i64 (n:Int)) m3 fK.zipIdx,az xV rV 56 1 (dO (rq++[⟨(aD z5),L,ys⟩])),az sH td 4 1 (cO ((fK.take (s+1)).map fin)),oI z4 25 [vN vs,(vI 0),(.slice xV (s+1) rV),(.slice sH (s+1) td)],oI z1 25 [(vI 0),(vI 0),nS,nS]]++(cw 3 (rq++[⟨(aD z5),L,ys⟩])++j5 iX)) (by
   rw[oF,show dO (rq++[⟨(aD z5),L,ys⟩])=(dO rq)++[(.slice (aD z5) L L)] by simp[Rec.val,Ee],show cw 3 (rq++[⟨(aD z5),L,ys⟩])=cw 3 rq++[bJ z5 L 3 1 (ints ys)] by simp[cw,Rec.qW]]
   exact rU [az tb tc 56 1 (fq c1 iX),dZ str (fun n:Nat=>Value.int .i64 (n:Int)) m3 fK.zipIdx,az xV rV 56 1 ((dO rq)++[(.slice (aD z5) L L)]),az sH td 4 1 ((cO ((ks.take s).map fin))++[.bool (fin (ks.getD s []))]),oI z4 25 [vN vs,(vI 0),(.slice xV (s+1) rV),(.slice sH (s+1) td)],oI z1 25 [(vI 0),(vI 0),nS,nS]] [bJ z12 1 4 1 [.bool (fin (ks.getD s []))],bJ z9 1 56 1 [(.slice (aD z5) L L)],bJ z5 L 3 1 (ints ys),az tb tc 56 1 (fq c1 iX),dZ str (fun n:Nat=>Value.int .i64 (n:Int)) m3 fK.zipIdx,az xV rV 56 1 ((dO rq)++[(.slice (aD z5) L L)]),az sH td 4 1 ((cO ((ks.take s).map fin))++[.bool (fin (ks.getD s []))]),oI z4 25 [vN vs,(vI 0),(.slice xV (s+1) rV),(.slice sH (s+1) td)],oI z1 25 [(vI 0),(vI 0),nS,nS]] (cw 3 rq) (j5 iX) (bJ z5 L 3 1 (ints ys)) (by exact Sub.d (.d (.fz [bJ z5 L 3 1 (ints ys)] _ (.fz [bJ z5 L 3 1 (ints ys)] _ (.fz [bJ z5 L 3 1 (ints ys)] _ (.fz [bJ z5 L 3 1 (ints ys)] _ (.fz [bJ z5 L 3 1 (ints ys)] _ (.fz [bJ z5 L 3 1 (ints ys)] _ (.k .z)))))))))) ?_
  refine a_ (ay (dj (b:=1) s F F (by omega)) (aj ?_))
  have Cu:x=L:=by omega
  have VX:ys=l9 tr L fK s:=by
   apply List.ext_getElem?
   intro i
   by_cases hi:i<L
   ·rw[AH i (by omega)];simp only[l9,tU];simp[hi]
   ·rw[cn (by omega),cn (by simp[l9];omega)]
  have GG: ∀y,y<L→tr (ks.getD s []) y∈fK:=fun y hy=>by rw[qU,et];exact .inr (List.mem_map_of_mem (List.mem_range.2 (by omega)))
  have Vx:rT tr L fK (s+1) (nums (rq++[⟨(aD z5),L,ys⟩])):=by
   have:=hE.snoc v_ VV VX (by rw[tU];exact GG)
   simpa[nums]using this
  exact⟨s+1,by omega,_,cd (aP _),fK,iX,rq++[⟨(aD z5),L,ys⟩],tb,xV,sH,tc,rV,td,F,by rw[zg,pu,qU,Cu],Lu,Aq,Nk,Vx,(.of F)⟩
 have DP: ¬s<qs.length:=by omega
 refine cD ?_
 refine br ?_
 have Nr:s=ks.length:=by omega
 have rQ:rq.length=(nums rq).length:=by simp
 obtain⟨W,hW⟩: ∃W,W=Lv vs (nums rq) (ks.map fin):=⟨_,F⟩
 have Ik:HasL (vs:Int) ks.length W (fun u=>fin (u.foldl tr start)):=by rw[hW];exact Il gS (by rw[hL];exact hF) (by rw[hL,←Nr];exact hE) (by omega)
 have e1:nums rq=W.next:=by rw[hW];rfl
 have e2:(ks.take s).map fin=W.aT:=by rw[hW,bt (by omega)];rfl
 have e3:(vs:Int)=W.vars:=by rw[hW];rfl
 have e4:(0:Int)=W.start:=by rw[hW];rfl
 have e5:s=W.next.length:=by rw[←e1,←rQ];omega
 have e6:s=W.aT.length:=by rw[Ik.valid.fin,←e5]
 obtain⟨M,hM⟩: ∃m,jD W=m:=⟨_,F⟩
 have Qq:fV (vs:Int) ks.length M (fun u=>fin (u.foldl tr start)):=hM▸Ik.qJ
 obtain⟨z9,Z7⟩: ∃z:DK,z=⟨ob,oc,fb,fc,rq⟩:=⟨_,F⟩
 refine dq (O':=([az ob oc 56 1 (dO rq),az fb fc 4 1 (cO ((ks.take s).map fin)),oI z4 25 [vN vs,(vI 0),(.slice ob s oc),(.slice fb s fc)],oI z1 25 [(vI 0),(vI 0),nS,nS]]++cw 3 rq)) (w_ _ _ _ _ (by exact Sub.d (.d (.k (.k (.k (.k .z))))))) ?_
 refine dq (O':=(([az ob oc 56 1 (dO rq),az fb fc 4 1 (cO W.aT)]++cw 3 rq)++[oI z4 25 [(vI W.vars),(vI W.start),(.slice ob W.next.length oc),(.slice fb W.aT.length fc)],oI z1 25 [(vI 0),(vI 0),nS,nS]])) (by rw[←e5,←e6,←e2,←e3,←e4];exact gR [az ob oc 56 1 (dO rq),az fb fc 4 1 (cO ((ks.take s).map fin))] (cw 3 rq) [oI z4 25 [vN vs,(vI 0),(.slice ob s oc),(.slice fb s fc)],oI z1 25 [(vI 0),(vI 0),nS,nS]]) ?_
 refine uN (φ:=nums rq=W.next) e1 ?_
 refine dq (O':=[dI 56 4 3 W z9,oI z4 25 (dC W z9),oI z1 25 [(vI 0),(vI 0),nS,nS]]) (by subst Z7;exact Sub.rf) ?_
 refine a_ (ay (eR 1 dm bY) (TO.lc Bs (aO fun w1 hI=>(haveI:=eP hI;Bt w1 W z9 (hI.at (k:=z9) (mG 0)) Ik.valid (by have:=Ik.valid.n4;omega) (M:=M) hM)) ?_))
 rintro vr O' ⟨N,rfl,k9,rfl,rfl⟩
 refine ae (bI _) (ae (bI _) ?_)
 have Ei:=fun(w1:World) (hI:Inv w [dI 56 4 3 M k9,dI 56 4 3 W z9,oI z4 25 (dC W z9),oI z1 25 [(vI 0),(vI 0),nS,nS]] w1)=>(haveI:=eP hI;oo w1 cb eb en ec vs B (hI.sl e_) M k9 0)
 refine eU F (fD tV (dT.pure Ei) F (fun z _=>⟨F,fun _=>z ⟨F,by have:=Qq.len;omega⟩⟩) ?_)
 clear Ei
 rintro vr O' ⟨N,rfl,rfl,rfl,_,AI⟩
 refine ax (c8 ((dC M k9)) 3 bY ?_)
 refine dP ?_
 refine cQ (i:=3) results141 dm F bY F F F ?_
 exact⟨[dI 56 4 3 M k9],(by exact Sub.k .z),M,k9,F,F,⟨Qq.toHasL.le AI,Qq.min⟩,Ej hF (Nr▸hE) RM⟩
theorem V7 (base:World) [dQ prog base] (x:Int):cx prog base 147 [vI x] [] (fun v O'=>v=.bool (decide (x<0))∧O'=[]):=by
 refine aA func147 F ntmps147 F ?_
 refine aQ (aj (bo cV (aj (cM ?_))))
 refine aF (.bool (decide (x<0))) results147 F ?_
 exact⟨F,F⟩
theorem RR (base:World) [dQ prog base] (b:Option Addr) (c:Nat) (z:List Int) (hz: ∀x∈z,0≤x) (hb:z.length≤1000000):
  cx prog base 145 [.slice b z.length c,(.func (.func 147) #[] #[])] [az b c 3 1 (ints z)] (fun v O'=>v=.slice b z.length c∧O'=[az b c 3 1 (ints z)]):=by
 refine aA func145 F ntmps145 F ?_
 refine aQ (aj (a7 (aN ?_)))
 refine TO.lc GD (aO fun w1 hI=>(haveI:=eP hI;(show cB _ _ _ _ _ from by
   have h9:=tT w1 b c z (hI.ij (mG 0)) (by omega) (.func (.func 147) #[] #[]) (fun x=>decide (x<0)) [] (fun x hx=>cZ (first:=[]) (args:=[vI x]) (gU:=[]) GK (V7 w1 x))
   exact h9))) ?_
 rintro vr O' ⟨N,rfl,i9,rfl,hi,rfl⟩
 have Lr:i9= -1:=by
  rcases hi with⟨_,h⟩|⟨k,_,h1,_,h2⟩
  ·exact h
  ·have:=hz _ (av h1)
   rw[au,ak h1]at h2
   simp at h2;omega
 refine aS (bq (aN (aX bN ?_)))
 refine bW ?_ (by rw[Lr];rfl)
 refine a7 (aj (cM ?_))
 refine aF (.slice b z.length c) results145 F ?_
 exact⟨F,F⟩
def XS (z:List Int) (k:Nat):List Int:=z.take k++((-1)::z).drop k
theorem zj {z:List Int} {k:Nat} (h:k≤z.length):(XS z k).length=z.length+1:=by simp[XS];omega
theorem aae {z:List Int} {k:Nat} (h:k<z.length):(XS z k)[k+1]? =some z[k]:=by
 unfold XS
 rw[bZ (by simp;omega),List.getElem?_drop]
 simp[Nat.min_eq_left (Nat.le_of_lt h),show k+(k+1-k)=k+1 by omega,h]
theorem V8 {z:List Int} {k:Nat} (h:k<z.length):fC (ints (XS z k)) k [vI z[k]]=ints (XS z (k+1)):=by
 simp only[fC]
 apply List.ext_getElem?
 intro j
 have hl:(ints (XS z k)).length=z.length+1:=by rw[ai,zj (Nat.le_of_lt h)]
 by_cases c1:j=k
 ·subst c1
  rw[List.getElem?_set_self (by omega),bl]
  unfold XS
  rw[bG (by simp;omega),List.getElem?_take,aB (by omega),ak h];rfl
 ·rw[List.getElem?_set_ne (fun e=>c1 e.symm),bl,bl]
  congr 1
  unfold XS
  by_cases c2:j<k
  ·rw[bG (by simp;omega),bG (by simp;omega),List.getElem?_take,List.getElem?_take,aB c2,aB (by omega)]
  ·rw[bZ (by simp;omega),bZ (by simp;omega),List.getElem?_drop,List.getElem?_drop]
   simp only[db,Nat.min_eq_left (Nat.le_of_lt h),Nat.min_eq_left h]
   congr 1;omega
theorem RT (base:World) [dQ prog base] (bk o c:Nat) (z:List Int) (hz: ∀x∈z,0≤x) (hb:z.length≤1000000) (FZ:z.length+1≤c):
  cx prog base 145 [.slice (some ⟨bk,o,none⟩) (z.length+1) c,(.func (.func 147) #[] #[])] [az (some ⟨bk,o,none⟩) c 3 1 (ints (-1::z))] (fun v O'=>v=.slice (some ⟨bk,o,none⟩) z.length c∧O'=[az (some ⟨bk,o,none⟩) c 3 1 (ints z)]):=by
 refine aA func145 F ntmps145 F ?_
 have hcz:z.length+1≤c:=FZ
 refine aQ (aj (a7 (aN ?_)))
 refine TO.lc GD (aO fun w1 hI=>(haveI:=eP hI;(show cB _ _ _ _ _ from by
   have h9:=tT w1 (some ⟨bk,o,none⟩) c (-1::z) (hI.ij (mG 0)) (by simp;omega) (.func (.func 147) #[] #[]) (fun x=>decide (x<0)) [] (fun x hx=>cZ (first:=[]) (args:=[vI x]) (gU:=[]) GK (V7 w1 x))
   exact h9))) ?_
 rintro vr O' ⟨N,rfl,i9,rfl,hi,rfl⟩
 have Lr:i9=((0:Nat):Int):=by
  rcases hi with⟨h,_⟩|⟨k,h,_,h1,_⟩
  ·simp at h
  ·cases k with
   |zero=>exact h
   |succ k=>simp at h1
 refine ae (cg cz (v':=vN 0) (show Value.int .i64 i9=_ by rw[Lr])) (bq (aN (aX bN (bf (aE (br (bo (dj (b:=1) 0 F F (by omega)) (aj (aK ?_)))))))))
 refine dU (fun(k:Nat) ρ O=>O=[az (some ⟨bk,o,none⟩) c 3 1 (ints (XS z k))]∧k≤z.length∧dh [(0,(.slice (some ⟨bk,o,none⟩) (z.length+1) c)),(1,(.func (.func 147) #[] #[])),(4,nS),(5,vN k),(6,vN (k+1))] ρ) (fun k=>z.length-k) 0 ?_ ?_
 ·exact⟨F,bj _,(.of F)⟩
 rintro k ρ O ⟨rfl,hk,hH⟩
 obtain⟨gv,rfl⟩:=hH.elim
 clear hH
 have Gi:=zj hk
 refine br (a7 (ay (cL da) (aX cV (aL F (fun hc=>?_) (fun hc=>?_)))))
 ·have TY:k+1<z.length+1:=by omega
  have hkz:k<z.length:=by omega
  refine aE (br (aK (aQ ?_)))
  refine aN (ay (dB ((k+1)) da bM F F (eA 0) (by omega) (by rw[ai,zj hk];omega)) (ae (iN eO F F (eA 0) (show(ints (XS z k))[k+1]? =some (vI z[k]) by rw[bl,aae hkz];rfl)) ?_))
  refine aj (a7 (aN ?_))
  let eH:Lx.Item:=az (some ⟨bk,o,none⟩) c 3 1 (ints (XS z k))
  have Em:=(fh.under (A:=[]) (B:=[eH]) (O:=[eH]) (cZ (first:=[]) (args:=[vI z[k]]) (gU:=[]) GK (V7 base z[k])) (cd (aP _)))
  refine ax (fT Em F F ?_)
  clear Em
  rintro vr O' ⟨A1,rfl,rfl,rfl⟩
  refine aX g_ ?_
  refine bW ?_ (show Value.bool (!decide (z[k]<0))=_ by rw[a8 (by have:=hz _ (av hkz);omega)];rfl)
  refine a7 (aN (ay (dB k da bM F F (eA 0) (by omega) (by rw[ai,zj hk];omega)) (ax (n7 (v:=vI z[k]) (vs:=[(vI z[k])]) (cs:=ints (XS z k)) k 0 bM F F F F F (by simp) F (by rw[ai,zj hk];simp;omega) ?_))))
  refine dW (O':=[az (some ⟨bk,o,none⟩) c 3 1 (ints (XS z (k+1)))]) (by rw[show fC (ints (XS z k)) k [(vI z[k])]=ints (XS z (k+1))from(V8 hkz)];exact cd (aP _)) ?_
  refine bi (a_ (ay (dj (b:=1) k F F (by omega)) (aj (a_ (ay (dj (b:=1) ((k+1)) F F (by omega)) (aj ?_))))))
  exact⟨k+1,by omega,F,by omega,(.of F)⟩
 have TZ: ¬k+1<z.length+1:=by omega
 refine cD ?_
 refine a7 (ay (DD (lo:=k) da bM F F (by omega) (by omega)) (ax (NA (m:=z.length+1) (lo:=k) 0 da bM F F F (by omega) (by omega) F ?_)))
 refine bi (a7 (ay (J1 (hi:=k) da bM F F (by omega)) (aj (cM ?_))))
 refine aF (.slice (some ⟨bk,o,none⟩) k c) results145 F ?_
 have Yr:k=z.length:=by omega
 have hxt:(ints (XS z k)).take k=ints z:=by
  rw[Yr,←List.map_take];unfold XS;rw[List.take_length,List.take_append_of_le_length (aI _),List.take_length]
 rw[hxt]
 exact⟨am (fun n9:Nat=>Value.slice (some ⟨bk,o,none⟩) n9 c) Yr,F⟩
theorem RU (base:World) [dQ prog base] (b:Option Addr) (c:Nat) (q:Bool×List Nat) (hb:q.2.length≤1000000):
  cx prog base 145 [.slice b (ki q).length c,(.func (.func 147) #[] #[])] [az b c 3 1 (ints (ki q))] (fun v O'=>v=.slice b q.2.length c∧O'=[az b c 3 1 (cm q.2)]):=by
 obtain⟨g,l⟩:=q
 have hz: ∀x∈l.map (fun y:Nat=>(y:Int)),0≤x:=fun x hx=>by obtain⟨y,_,rfl⟩:=List.mem_map.1 hx;omega
 cases g with
 |false=>
  have h9:=RR base b c (l.map fun y:Nat=>(y:Int)) hz (by rw[ai];exact hb)
  rw[ai,gN]at h9
  rw[show ki (false,l)=l.map (fun y:Nat=>(y:Int))from F,ai,gN]
  exact h9
 |true=>
  rw[show ki (true,l)= -1::l.map (fun y:Nat=>(y:Int))from F,bQ,ai]
  intro w M hI
  have hO:(([az b c 3 1 (ints (-1::l.map fun y:Nat=>(y:Int)))]++M:List Lx.Item))[0]? =some (az b c 3 1 (ints (-1::l.map fun y:Nat=>(y:Int)))):=rfl
  cases b with
  |none=>exact absurd (hI.row hO).1 (by simp)
  |some a=>
   obtain⟨bk,o,sp⟩:=a
   have Aw:sp=none:=(hI.row hO).1
   subst Aw
   obtain⟨_,full,_,h1,_⟩:=hI.row hO
   have h9:=RT base bk o c (l.map fun y:Nat=>(y:Int)) hz (by rw[ai];exact hb) (by simpa using h1)
   rw[ai,gN]at h9
   exact h9 w M hI
theorem NB (w:World) [dQ prog w] (a:c_) (va:Valid a) (g:Bool) (l:List Nat) (sb:Option Addr) (c:Nat) (hS:Sl w sb (ints (ki (g,l)))) (hG:GS a (g,l)):
  cB prog 142 [(.slice sb ((ki (g,l)).length) c)] w fun v N=>v=str (De (g,l))∧N=[]:=by
 refine aA func142 F ntmps142 F ?_
 have hl4:l.length≤4096:=bE (fA (hG.V2.imp fun h=>Nat.ne_of_lt h) hG.lt) va.n4
 have hil:(ki (g,l)).length≤4097:=by unfold ki;split<;>simp<;>omega
 refine aQ (aj (a7 (TO.lc we (aO fun w1 hI=>(haveI:=eP hI;Im w1 sb c (ki (g,l)) (hI.sl hS) (zk va.n4 hG) (by omega))) ?_)))
 rintro vr O' ⟨N,rfl,jb,jc,rfl,rfl⟩
 refine ae (DA (l:=De (g,l)) kR wZ il F (mG 0) F) (aR ?_)
 refine aF (str (De (g,l))) results142 F ?_
 exact⟨[],Sub.z,F,F⟩
theorem Kp (w:World) [dQ prog w] (a:c_) (ka:DK) (ha:At w a ka) (va:Valid a) (za:Nat) (u9:Sl w (aD za) (dC a ka)) (g:Bool) (l:List Nat) (sb:Option Addr) (c:Nat) (hS:Sl w sb (ints (ki (g,l)))) (hG:GS a (g,l)) (x:Nat) (hx:x<eE a):
  cB prog 143 [(.slice sb ((ki (g,l)).length) c),v8 x,(eJ za 0)] w fun v N=> ∃b' c' c2,v=.slice b' (vd a (g,l) x).2.length c'∧N=[az b' c2 3 1 (cm (vd a (g,l) x).2)]:=by
 refine aA func143 F ntmps143 F ?_
 have hl4:l.length≤4096:=bE (fA (hG.V2.imp fun h=>Nat.ne_of_lt h) hG.lt) va.n4
 have hil:(ki (g,l)).length≤4097:=by unfold ki;split<;>simp<;>omega
 have Qr:=ot a l x
 have Qj:(gw a l x).length≤4096:=bE (NC _ _) va.n4
 refine aQ (aj (br ?_))
 refine T.ds [] [(0,0),(1,0),(4,0),(2,1),(3,1),(5,2),(6,2)] (cd (bV _)) ?_
 refine ap F (fy ((dC a ka)) dm F bY F F (bK _) (a6 u9) (fun j hj=>by rw[Nat.zero_add];exact ak hj)) (ap F aw (ap F aw ?_))
 refine cG F F (eh Nh (aO fun w1 hI=>(haveI:=eP hI;Ni w1 sb c (ki (g,l)) (hI.sl hS) (by omega))) ?_)
 rintro vr O' ⟨N,rfl,nb,nc,rfl,rfl,hnc⟩
 refine⟨by exact Sub.z,?_⟩
 refine cG F F (eh V9 (n8 [0] (RU w nb nc (g,l) (by show l.length≤_;omega))) ?_)
 rintro vr O' ⟨A1,rfl,rfl,rfl⟩
 refine⟨by exact Sub.z,?_⟩
 refine cA F F (eh Nv (aO fun w1 hI=>(haveI:=eP hI;TQ w1 a ka (hI.sE ha) va nb nc l (hI.ij (mG 0)) hG.lt (by omega) x hx)) ?_)
 rintro vr O' ⟨N,rfl,tb,tc,rfl,rfl⟩
 refine cA F F (eV F F cz ?_)
 refine cy ?_
 refine br (aQ ?_)
 refine ae (fy ((dC a ka)) dm F bY F F (bK _) (a6 u9) (fun j hj=>by rw[Nat.zero_add];exact ak hj)) (aN ?_)
 refine TO.lc Cv (aO fun w1 hI=>(haveI:=eP hI;xY w1 a ka (hI.sE ha) va tb tc (gw a l x) (hI.ij (mG 0)) Qr.2 (by omega))) ?_
 rintro vr O' ⟨N,rfl,rfl,rfl⟩
 refine bi (T.cond F (fun hc=>?_) (fun hc=>?_))
 ·refine a_ ?_
  refine ay (cF dm F bM F F (a6 u9) (by show _<4;decide)) (ae (dD eO F F u9 (show _=some (Value.int .i64 ((a.start.toNat:Nat):Int)) by rw[cW va.s0];rfl)) (TO.lc Nt (n8 [0] (TS w a.next.length tb tc tc (gw a l x) a.start.toNat Qr.1 Qr.2 (ez va.toVal) (by omega))) ?_))
  rintro vr O' ⟨A1,rfl,wb,wc,Z8,rfl,rfl⟩
  refine aj (a7 (aR ?_))
  refine aF (.slice wb ((Cr a.next.length (gw a l x) a.start.toNat).length) wc) results143 F ?_
  have e9:(vd a (g,l) x).2=Cr a.next.length (gw a l x) a.start.toNat:=by show(if _ then _ else _)=_;rw[aB hc]
  rw[e9]
  exact⟨[az wb Z8 3 1 (cm (Cr a.next.length (gw a l x) a.start.toNat))],(by exact Sub.k .z),wb,wc,Z8,F,F⟩
 refine aE (a7 (aR ?_))
 refine aF (.slice tb ((gw a l x).length) tc) results143 F ?_
 have e9:(vd a (g,l) x).2=gw a l x:=by show(if _ then _ else _)=_;rw[aq (by rw[hc];simp)]
 rw[e9]
 exact⟨[az tb tc 3 1 (cm (gw a l x))],(by exact Sub.k .z),tb,tc,tc,F,F⟩
theorem ND (w:World) [dQ prog w] (a:c_) (ka:DK) (ha:At w a ka) (va:Valid a) (za:Nat) (u9:Sl w (aD za) (dC a ka)) (l:List Nat) (sb:Option Addr) (c:Nat) (hS:Sl w sb (ints (ki (true,l)))) (hG:GS a (true,l)):
  cB prog 150 [(.slice sb (l.length+1) c),(eJ za 0)] w fun v N=>v=.bool (RV a (true,l))∧N=[]:=by
 refine aA func150 F ntmps150 F ?_
 have hl4:l.length≤4096:=bE (fA (hG.V2.imp fun h=>Nat.ne_of_lt h) hG.lt) va.n4
 rw[show ki (true,l)= -1::l.map (fun y:Nat=>(y:Int))from F]at hS
 refine aQ (aj (bo (cL da) (ae (bn gT (by omega)) (aN (ao aw (ao (dB 0 da bM F F (a6 hS) (by omega) (by simp)) (ao (dD eO F F hS F) (ao (bn cV (by decide)) ?_))))))))
 refine ae bw (aN (cY (cK (ae bw (aR ?_)))))
 refine aF (.bool true) results150 F ?_
 exact⟨[],Sub.z,F,F⟩
theorem NE (w:World) [dQ prog w] (a:c_) (ka:DK) (ha:At w a ka) (va:Valid a) (za:Nat) (u9:Sl w (aD za) (dC a ka)) (l:List Nat) (sb:Option Addr) (c:Nat) (hS:Sl w sb (ints (ki (false,l)))) (hG:GS a (false,l)):
  cB prog 150 [(.slice sb l.length c),(eJ za 0)] w fun v N=>v=.bool (RV a (false,l))∧N=[]:=by
 refine aA func150 F ntmps150 F ?_
 have hl4:l.length≤4096:=bE (fA (hG.V2.imp fun h=>Nat.ne_of_lt h) hG.lt) va.n4
 rw[show ints (ki (false,l))=cm l by rw[←gN];rfl]at hS
 refine aQ (aj (bo (cL da) ?_))
 by_cases Dd:((l.length:Nat):Int)>0
 ·refine ae (bn gT Dd) ?_
  refine aN (ao aw (ao (dB 0 da bM F F (a6 hS) (by omega) (by rw[ai];omega)) (ao (dD eO F F hS (iT (show 0<l.length by omega))) (ao (aY cV (by omega)) (ae bw (aN ?_))))))
  refine ao (fy ((dC a ka)) dm F bY F F (bK _) (a6 u9) (fun j hj=>by rw[Nat.zero_add];exact ak hj)) ?_
  refine ao aw ?_
  refine gF F F F (eh Cv (aO fun w1 hI=>(haveI:=eP hI;xY w1 a ka (hI.sE ha) va sb c l (hI.sl hS) hG.lt (by omega))) ?_)
  rintro vr O' ⟨N,rfl,rfl,rfl⟩
  refine ae bU (aR ?_)
  refine aF (.bool (l.any (dR a))) results150 F ?_
  exact⟨[],Sub.z,F,F⟩
 refine ae (aY gT Dd) (aN (du (ae bU (aN ?_))))
 refine ao (fy ((dC a ka)) dm F bY F F (bK _) (a6 u9) (fun j hj=>by rw[Nat.zero_add];exact ak hj)) ?_
 refine ao aw ?_
 refine gF F F F (eh Cv (aO fun w1 hI=>(haveI:=eP hI;xY w1 a ka (hI.sE ha) va sb c l (hI.sl hS) hG.lt (by omega))) ?_)
 rintro vr O' ⟨N,rfl,rfl,rfl⟩
 refine ae bU (aR ?_)
 refine aF (.bool (l.any (dR a))) results150 F ?_
 exact⟨[],Sub.z,F,F⟩
theorem NF (w:World) [dQ prog w] (a:c_) (ka:DK) (ha:At w a ka) (va:Valid a) (za:Nat) (u9:Sl w (aD za) (dC a ka)) (g:Bool) (l:List Nat) (sb:Option Addr) (c:Nat) (hS:Sl w sb (ints (ki (g,l)))) (hG:GS a (g,l)):
  cB prog 150 [(.slice sb ((ki (g,l)).length) c),(eJ za 0)] w fun v N=>v=.bool (RV a (g,l))∧N=[]:=by
 cases g with
 |true=>
  rw[show(ki (true,l)).length=l.length+1 by rw[show ki (true,l)= -1::l.map (fun y:Nat=>(y:Int))from F];simp]
  exact ND w a ka ha va za u9 l sb c hS hG
 |false=>
  rw[show(ki (false,l)).length=l.length by rw[show ki (false,l)=l.map (fun y:Nat=>(y:Int))from F];simp]
  exact NE w a ka ha va za u9 l sb c hS hG
def NG (a:c_) (w:World) (k:Key) (r:SR):Prop:= ∃g l sb cc,GS a (g,l)∧k=De (g,l)∧r.a=.slice sb (ki (g,l)).length cc∧r.b=.bool false∧((∃c2,r.lX=[az sb c2 3 1 (ints (ki (g,l)))])∨(r.lX=[]∧Sl w sb (ints (ki (g,l)))))
theorem NG.sl {w w1:World} {sb:Option Addr} {cs:List Value} {lX:List Lx.Item} (hI:Inv w [] w1) (h:(∃c2,lX=[az sb c2 3 1 cs])∨(lX=[]∧Sl w sb cs)) (gf: ∀it∈lX,it.P w1):Sl w1 sb cs:=by
 rcases h with⟨c2,he⟩|⟨_,h⟩
 ·exact rowP.sl (gf (az sb c2 3 1 cs) (by rw[he];simp))
 ·exact hI.sl h
theorem NG.one {a:c_} {w:World} {k:Key} {r:SR} (h:NG a w k r):fS r.a=true∧fS r.b=true:=by
 obtain⟨g,l,sb,cc,_,_,h1,h2,_⟩:=h
 rw[h1,h2];exact⟨F,F⟩
set_option maxRecDepth 20000 in
theorem V_ (w:World) [dQ prog w] (a:c_) (ka:DK) (ha:At w a ka) (va:Valid a) (za:Nat) (u9:Sl w (aD za) (dC a ka)) (w1:World) [dQ prog w1] (hI:Inv w [] w1) (k:Key) (r:SR) (hR:NG a w k r) (gf: ∀it∈r.lX,it.P w1):fh prog w1 (.func (.func 142) #[] #[]) [r.a] [] (fun v O'=>v=str k∧O'=[]):=by
 obtain⟨g,l,sb,cc,hG,rfl,e1,e2,hm⟩:=hR
 have hS:=NG.sl hI hm gf
 rw[e1]
 exact cZ (first:=[]) (args:=[.slice sb (ki (g,l)).length cc]) (gU:=[]) Wa (NB w1 a va g l sb cc hS hG)
set_option maxRecDepth 20000 in
theorem Wb (w:World) [dQ prog w] (a:c_) (ka:DK) (ha:At w a ka) (va:Valid a) (za:Nat) (u9:Sl w (aD za) (dC a ka)) (w1:World) [dQ prog w1] (hI:Inv w [] w1) (k:Key) (r:SR) (hR:NG a w k r) (gf: ∀it∈r.lX,it.P w1) (x:Nat) (hx:x<eE a):fh prog w1 (.func (.func 143) #[] #[(eJ za 0)]) [r.a,.int .u8 (x:Int)] [] (fun v N=> ∃r',v=r'.a∧N=r'.lX∧NG a w (Cw (GS a) De (vd a) k x) r'):=by
 obtain⟨g,l,sb,cc,hG,rfl,e1,e2,hm⟩:=hR
 have hS:=NG.sl hI hm gf
 rw[e1]
 refine(cZ (first:=[]) (args:=[.slice sb (ki (g,l)).length cc,.int .u8 (x:Int)]) (gU:=[(eJ za 0)]) Wc (Kp w1 a ka (hI.sE ha) va za (hI.sl u9) g l sb cc hS hG x hx)).mono ?_
 rintro v O' ⟨b',c',c2,rfl,rfl⟩
 have e3:ki (vd a (g,l) x)=(vd a (g,l) x).2.map fun y:Nat=>(y:Int):=rfl
 exact⟨⟨.slice b' (vd a (g,l) x).2.length c',.bool false,[az b' c2 3 1 (cm (vd a (g,l) x).2)]⟩,F,F,false,(vd a (g,l) x).2,b',c',GS.next x,tX (Cz va) hG hx,by show _=Value.slice b' (ki (vd a (g,l) x)).length c';rw[e3,ai],F,.inl ⟨c2,by show _=[az b' c2 3 1 (ints (ki (vd a (g,l) x)))];rw[e3,gN]⟩⟩
set_option maxRecDepth 20000 in
theorem We (w:World) [dQ prog w] (a:c_) (ka:DK) (ha:At w a ka) (va:Valid a) (za:Nat) (u9:Sl w (aD za) (dC a ka)) (w1:World) [dQ prog w1] (hI:Inv w [] w1) (k:Key) (r:SR) (hR:NG a w k r) (gf: ∀it∈r.lX,it.P w1):fh prog w1 (.func (.func 150) #[] #[(eJ za 0)]) [r.a] [] (fun v O'=>v=.bool (Ko (GS a) De (RV a) k)∧O'=[]):=by
 obtain⟨g,l,sb,cc,hG,rfl,e1,e2,hm⟩:=hR
 have hS:=NG.sl hI hm gf
 rw[e1]
 rw[Cx (Cz va) hG]
 exact cZ (first:=[]) (args:=[.slice sb (ki (g,l)).length cc]) (gU:=[(eJ za 0)]) Wf (NF w1 a ka (hI.sE ha) va za (hI.sl u9) g l sb cc hS hG)
theorem aaf (w:World) [dQ prog w] (cb:Nat) (eb:Option Addr) (en ec vs B:Nat) (e_:Sl w (aD cb) [.slice eb en ec,vI (vs:Int),vI (B:Int)]) (gS:vs≤6) (jA:1≤B) (hB:B≤4096) (a:c_) (ka:DK) (ha:At w a ka) (va:Valid a) (hav:a.vars=(vs:Int)):
  dT prog w (.iface 163 (.agg #[])) 105 [(eJ cb 0),dV a ka] [] (fun v N=> ∃M k',v=dV M k'∧N=[dI 56 4 3 M k']∧fV (vs:Int) B M (rM (jf a))∧GL a (eE a) B) (¬GL a (eE a) B):=by
 refine ek func105 F ntmps105 F ?_
 refine aQ (ax (ef ((dC a ka)) (fun z1=>?_)))
 refine ax (b_ bY (fun z2=>?_))
 refine bi (bo (bu dm bM) (ae (cg (bF 1 eO) (v':=vI ((a.start.toNat:Nat):Int)) (show Value.int .i64 a.start=_ by rw[cW va.s0])) (ax (cP (m:=2) (parts:=[(0,.const (vI (-1))),(1,.tmp 7)]) (cs:=[vI (-1),vI ((a.start.toNat:Nat):Int)]) da bM (by decide) (by kernel_rfl) F (fun z3=>?_)))))
 refine ae (fI) (ae (fI) ?_)
 have uB:=fun(w1:World) (hI:Inv w [bJ z3 2 3 1 [vI (-1),vI ((a.start.toNat:Nat):Int)],oI z2 25 [(vI 0),(vI 0),nS,nS],oI z1 25 (dC a ka)] w1)=>(haveI:=eP hI;GI w1 cb eb en ec vs B (eE a) (hI.sl e_) gS (by unfold eE;rw[hav];rfl) jA hB (Cw (GS a) De (vd a)) (Ko (GS a) De (RV a)) (De (GM a)) (NG a w1) ⟨.slice (aD z3) 2 2,.bool false,[]⟩ (.func (.func 142) #[] #[]) (.func (.func 143) #[] #[(eJ z1 0)]) (.func (.func 150) #[] #[(eJ z1 0)]) ⟨true,[a.start.toNat],(aD z3),2,GS.start va.toVal,F,F,F,.inr ⟨F,hI.ij (mG 0)⟩⟩ F (fun k r h=>h.one) (fun w2 k r qK hR gf=>haveI:=eP qK;V_ w1 a ka (hI.sE ha) va z1 (hI.lj (mG 2)) w2 qK k r hR gf) (fun w2 k r x qK hR gf hx=>haveI:=eP qK;Wb w1 a ka (hI.sE ha) va z1 (hI.lj (mG 2)) w2 qK k r hR gf x hx) (fun w2 k r qK hR gf=>haveI:=eP qK;We w1 a ka (hI.sE ha) va z1 (hI.lj (mG 2)) w2 qK k r hR gf))
 refine eU F (fD Wg (dT.pure uB) F (fun z _=>⟨F,z⟩) ?_)
 clear uB
 rintro vr O' ⟨N,rfl,M,k9,rfl,rfl,hM,Nz⟩
 refine ax (c8 ((dC M k9)) 2 bY ?_)
 refine dP ?_
 refine cQ (i:=2) results105 dm F bY F F F ?_
 exact⟨[dI 56 4 3 M k9],(by exact Sub.k .z),M,k9,F,F,⟨⟨hM.valid,hM.len,hM.vars,fun u hu=>by rw[hM.jf u hu];exact Bx va (fun x hx=>by have:=hu x hx;unfold eE;rw[hav];exact this)⟩,hM.min⟩,Nz⟩
def Nx (a b:c_) (w:World) (k:Key) (r:SR):Prop:= ∃s l sb cc,GC a b (s,l)∧k=Bw (s,l)∧r.a=vI (s:Int)∧r.b=.slice sb l.length cc∧((∃c2,r.lX=[az sb c2 3 1 (cm l)])∨(r.lX=[]∧Sl w sb (cm l)))
theorem rowAt {w1:World} {b:Option Addr} {c:Nat} {T:TypeId} {cs:List Value} {lX:List Lx.Item} (he:lX=[az b c T 1 cs]) (h: ∀it∈lX,it.P w1):Sl w1 b cs:=rowP.sl (h (az b c T 1 cs) (by rw[he];simp))
theorem Nx.sl {a b:c_} {w w1:World} {sb:Option Addr} {l:List Nat} {lX:List Lx.Item} (hI:Inv w [] w1) (h:(∃c2,lX=[az sb c2 3 1 (cm l)])∨(lX=[]∧Sl w sb (cm l))) (gf: ∀it∈lX,it.P w1):Sl w1 sb (cm l):=by
 rcases h with⟨c2,he⟩|⟨_,h⟩
 ·exact rowAt he gf
 ·exact hI.sl h
theorem Nx.one {a b:c_} {w:World} {k:Key} {r:SR} (h:Nx a b w k r):fS r.a=true∧fS r.b=true:=by
 obtain⟨s,l,sb,cc,_,_,h1,h2,_⟩:=h
 rw[h1,h2];exact⟨F,F⟩
set_option maxRecDepth 20000 in
theorem Z_ (w:World) [dQ prog w] (a:c_) (ka:DK) (ha:At w a ka) (va:Valid a) (za:Nat) (u9:Sl w (aD za) (dC a ka)) (b:c_) (kb:DK) (hb:At w b kb) (vb:Valid b) (zb:Nat) (Io:Sl w (aD zb) (dC b kb)) (AJ:a.vars=b.vars) (zf:Nat) (Z9:Sl w (aD zf) [(.func (.func 153) #[] #[(eJ za 0),(eJ zb 0)])]) (w1:World) [dQ prog w1] (hI:Inv w [] w1) (k:Key) (r:SR) (hR:Nx a b w k r) (gf: ∀it∈r.lX,it.P w1):fh prog w1 (.func (.func 155) #[] #[]) [.agg #[r.a,r.b]] [] (fun v O'=>v=str k∧O'=[]):=by
 obtain⟨s,l,sb,cc,hG,rfl,e1,e2,hm⟩:=hR
 have hS:=Nx.sl (a:=a) (b:=b) hI hm gf
 have Kn:=hG.len vb.n4
 rw[e1,e2]
 exact cZ (first:=[]) (args:=[.agg #[vI (s:Int),.slice sb l.length cc]]) (gU:=[]) V0 (RN w1 s (by have:=hG.s;have:=va.n4;omega) sb cc l hS (fun t ht=>by have:=hG.lt t ht;have:=vb.n4;omega) Kn)
set_option maxRecDepth 20000 in
theorem aaa (w:World) [dQ prog w] (a:c_) (ka:DK) (ha:At w a ka) (va:Valid a) (za:Nat) (u9:Sl w (aD za) (dC a ka)) (b:c_) (kb:DK) (hb:At w b kb) (vb:Valid b) (zb:Nat) (Io:Sl w (aD zb) (dC b kb)) (AJ:a.vars=b.vars) (zf:Nat) (Z9:Sl w (aD zf) [(.func (.func 153) #[] #[(eJ za 0),(eJ zb 0)])]) (w1:World) [dQ prog w1] (hI:Inv w [] w1) (k:Key) (r:SR) (hR:Nx a b w k r) (gf: ∀it∈r.lX,it.P w1) (x:Nat) (hx:x<eE a):fh prog w1 (.func (.func 156) #[] #[(eJ zf 0),(eJ za 0),(eJ zb 0)]) [.agg #[r.a,r.b],.int .u8 (x:Int)] [] (fun v N=> ∃r',v=.agg #[r'.a,r'.b]∧N=r'.lX∧Nx a b w (Cw (GC a b) Bw (Lw a b) k x) r'):=by
 obtain⟨s,l,sb,cc,hG,rfl,e1,e2,hm⟩:=hR
 have hS:=Nx.sl (a:=a) (b:=b) hI hm gf
 have Kn:=hG.len vb.n4
 rw[e1,e2]
 refine(cZ (first:=[]) (args:=[.agg #[vI (s:Int),.slice sb l.length cc],.int .u8 (x:Int)]) (gU:=[(eJ zf 0),(eJ za 0),(eJ zb 0)]) V1 (Nu w1 a ka (hI.sE ha) va za (hI.sl u9) b kb (hI.sE hb) vb zb (hI.sl Io) AJ zf (hI.sl Z9) s hG.s sb cc l hS hG.V2 hG.lt x hx)).mono ?_
 rintro v O' ⟨b',c',c2,rfl,rfl⟩
 exact⟨⟨vI ((fm a s x:Nat):Int),.slice b' (xa a b (fm a s x) (gw b l x)).length c',[az b' c2 3 1 (cm (xa a b (fm a s x) (gw b l x)))]⟩,F,F,fm a s x,_,b',c',hG.next va.toVal vb.toVal hx,tX (Iq va vb) hG hx,F,F,.inl ⟨c2,F⟩⟩
set_option maxRecDepth 20000 in
theorem aab (w:World) [dQ prog w] (a:c_) (ka:DK) (ha:At w a ka) (va:Valid a) (za:Nat) (u9:Sl w (aD za) (dC a ka)) (b:c_) (kb:DK) (hb:At w b kb) (vb:Valid b) (zb:Nat) (Io:Sl w (aD zb) (dC b kb)) (AJ:a.vars=b.vars) (zf:Nat) (Z9:Sl w (aD zf) [(.func (.func 153) #[] #[(eJ za 0),(eJ zb 0)])]) (w1:World) [dQ prog w1] (hI:Inv w [] w1) (k:Key) (r:SR) (hR:Nx a b w k r) (gf: ∀it∈r.lX,it.P w1):fh prog w1 (.func (.func 157) #[] #[(eJ zb 0)]) [.agg #[r.a,r.b]] [] (fun v O'=>v=.bool (Ko (GC a b) Bw (VZ b) k)∧O'=[]):=by
 obtain⟨s,l,sb,cc,hG,rfl,e1,e2,hm⟩:=hR
 have hS:=Nx.sl (a:=a) (b:=b) hI hm gf
 have Kn:=hG.len vb.n4
 rw[e1,e2]
 rw[Cx (Iq va vb) hG]
 exact cZ (first:=[]) (args:=[.agg #[vI (s:Int),.slice sb l.length cc]]) (gU:=[(eJ zb 0)]) V3 (RP w1 b kb (hI.sE hb) vb zb (hI.sl Io) s sb cc l hS hG.lt Kn)
set_option maxRecDepth 20000 in
theorem V4 (w:World) [dQ prog w] (a:c_) (ka:DK) (ha:At w a ka) (va:Valid a) (za:Nat) (u9:Sl w (aD za) (dC a ka)) (b:c_) (kb:DK) (hb:At w b kb) (vb:Valid b) (zb:Nat) (Io:Sl w (aD zb) (dC b kb)):fh prog w (.func (.func 153) #[] #[(eJ za 0),(eJ zb 0)]) [.agg #[vI a.start,nS]] [] (fun v N=> ∃sb sc Qs,v=.agg #[vI a.start,.slice sb (xa a b a.start.toNat []).length sc]∧N=[az sb Qs 3 1 (cm (xa a b a.start.toNat []))]):=by
 refine cZ (first:=[]) (args:=[.agg #[vI a.start,nS]]) (gU:=[(eJ za 0),(eJ zb 0)]) Nw (cx.fJ 3 1 ?_)
 have h9:=Ns w a ka ha va za u9 b kb hb vb zb Io a.start.toNat (ez va.toVal) none 0 0 [] List.Pairwise.nil (by simp)
 rw[cW va.s0]at h9
 exact h9
theorem V5 (w:World) [dQ prog w] (cb:Nat) (eb:Option Addr) (en ec vs B:Nat) (e_:Sl w (aD cb) [.slice eb en ec,vI (vs:Int),vI (B:Int)]) (gS:vs≤6) (jA:1≤B) (hB:B≤4096) (a:c_) (ka:DK) (ha:At w a ka) (va:Valid a) (hav:a.vars=(vs:Int)) (b:c_) (kb:DK) (hb:At w b kb) (vb:Valid b) (AJ:a.vars=b.vars):
  dT prog w (.iface 163 (.agg #[])) 108 [(eJ cb 0),dV a ka,dV b kb] [] (fun v N=> ∃M k',v=dV M k'∧N=[dI 56 4 3 M k']∧fV (vs:Int) B M (iV (jf a) (jf b))∧Cy a b (eE a) B) (¬Cy a b (eE a) B):=by
 refine ek func108 F ntmps108 F ?_
 refine aQ (ax (ef ((dC a ka)) (fun z1=>?_)))
 refine ax (ef ((dC b kb)) (fun z2=>?_))
 refine ax (b_ bY (fun z3=>?_))
 refine bi (aG (fI) (ax (b_ Ny (fun z4=>?_))))
 let eH:Value:=(.func (.func 153) #[] #[(.pointer (aD z1)),(.pointer (aD z2))])
 refine ax (c8 [eH] 0 Ny ?_)
 refine bi (bo (bF 0 TX) (ae (bu dm bM) (ae (bF 3 eO) (ae (dc [(vI a.start),nS] Ip mJ (by kernel_rfl)) ?_))))
 have u_:=(eK (O:=[oI z4 209 [eH],oI z3 25 [(vI 0),(vI 0),nS,nS],oI z2 25 (dC b kb),oI z1 25 (dC a ka)]) fun w1 hI=>haveI:=eP hI;(haveI:=eP hI;V4 w1 a ka (hI.sE ha) va z1 (hI.lj (mG 3)) b kb (hI.sE hb) vb z2 (hI.lj (mG 2))))
 refine ax (fT u_ F F ?_)
 clear u_
 rintro vr O' ⟨N,rfl,sb,sc,Qs,rfl,rfl⟩
 refine ae (fI) (ae (fI) ?_)
 have aad:=fun(w1:World) (hI:Inv w [az sb Qs 3 1 (cm (xa a b a.start.toNat [])),oI z4 209 [eH],oI z3 25 [(vI 0),(vI 0),nS,nS],oI z2 25 (dC b kb),oI z1 25 (dC a ka)] w1)=>(haveI:=eP hI;Ek w1 cb eb en ec vs B (eE a) (hI.sl e_) gS (by unfold eE;rw[hav];rfl) jA hB (Cw (GC a b) Bw (Lw a b)) (Ko (GC a b) Bw (VZ b)) (Bw (RQ a b)) (Nx a b w1) ⟨vI a.start,.slice sb (xa a b a.start.toNat []).length sc,[]⟩ (.func (.func 155) #[] #[]) (.func (.func 156) #[] #[(eJ z4 0),(eJ z1 0),(eJ z2 0)]) (.func (.func 157) #[] #[(eJ z2 0)]) ⟨a.start.toNat,xa a b a.start.toNat [],sb,sc,GC.start va.toVal vb.toVal,F,(show Value.int .i64 a.start=_ by rw[cW va.s0]),F,.inr ⟨F,hI.ij (mG 0)⟩⟩ F (fun k r h=>h.one) (fun w2 k r qK hR gf=>haveI:=eP qK;Z_ w1 a ka (hI.sE ha) va z1 (hI.lj (mG 4)) b kb (hI.sE hb) vb z2 (hI.lj (mG 3)) AJ z4 (hI.lj (mG 1)) w2 qK k r hR gf) (fun w2 k r x qK hR gf hx=>haveI:=eP qK;aaa w1 a ka (hI.sE ha) va z1 (hI.lj (mG 4)) b kb (hI.sE hb) vb z2 (hI.lj (mG 3)) AJ z4 (hI.lj (mG 1)) w2 qK k r hR gf x hx) (fun w2 k r qK hR gf=>haveI:=eP qK;aab w1 a ka (hI.sE ha) va z1 (hI.lj (mG 4)) b kb (hI.sE hb) vb z2 (hI.lj (mG 3)) AJ z4 (hI.lj (mG 1)) w2 qK k r hR gf))
 refine eU F (fD V6 (dT.pure aad) F (fun z _=>⟨F,z⟩) ?_)
 clear aad
 rintro vr O' ⟨N,rfl,M,k9,rfl,rfl,hM,Nz⟩
 refine ax (c8 ((dC M k9)) 3 bY ?_)
 refine dP ?_
 refine cQ (i:=3) results108 dm F bY F F F ?_
 exact⟨[dI 56 4 3 M k9],(by exact Sub.k .z),M,k9,F,F,⟨⟨hM.valid,hM.len,hM.vars,fun u hu=>by rw[hM.jf u hu];exact El va vb AJ (fun x hx=>by have:=hu x hx;unfold eE;rw[hav];exact this)⟩,hM.min⟩,Nz⟩
abbrev ux (vs B:Nat) (t:Rx) (v:Value) (N:List Lx.Item):Prop:= ∃M k',v=dV M k'∧N=[dI 56 4 3 M k']∧fV (vs:Int) B M (fM t)∧kZ vs t B
theorem GO (w:World) [dQ prog w] (cb:Nat) (eb:Option Addr) (en ec vs B:Nat) (e_:Sl w (aD cb) [.slice eb en ec,vI (vs:Int),vI (B:Int)]) (gS:vs≤6) (jA:1≤B) (hB:B≤4096) (e:List ei) (hE:Sl w eb (bX e)) (k7:en=e.length) (i:Nat) (hp:e[i]? =some ⟨2,0,0,0,0⟩):
  dT prog w (.iface 163 (.agg #[])) 72 [(eJ cb 0),vN i] [] (ux vs B Rx.empty) (¬kZ vs Rx.empty B):=by
 refine ek func72 F ntmps72 F ?_
 obtain⟨hi,_⟩:=jp hp
 refine aQ (ax (b_ bY (fun z1=>?_)))
 refine bi (bo bg (ae (cF mj F iK F F (a6 e_) (by first|omega|(simp;done)|(simp;omega)|(simp_all;done)|(simp_all;omega))) (ae (dD dX F F e_ F) (ay (eF (i:=i) dX cR F F (a6 hE) (by omega) (by rw[cE];omega)) (ae (fy [v8 2,v8 0,v8 0,vI 0,vI 0] dz F cR F F (bK _) (a6 hE) (gk hp)) (ax (b_ cR (fun z2=>?_))))))))
 refine ax (c8 [v8 2,v8 0,v8 0,vI 0,vI 0] 0 cR ?_)
 refine bq (ae (bu dz eN) (aX (bF 0 il) (aK (aG bN (aX (aY cz (by decide)) (bf (aG bN (ae (bn cz (by decide)) ?_))))))))
 refine bi ?_
 refine bW ?_
 refine bo (eR 0 dz cR) ?_
 have Em:=fun(w1:World) (hI:Inv w [oI z2 72 [v8 2,v8 0,v8 0,vI 0,vI 0],oI z1 25 [(vI 0),(vI 0),nS,nS]] w1)=>(haveI:=eP hI;NI w1 cb eb en ec vs B (hI.sl e_) gS jA hB 0 2 0 0 0 0 (by omega) (by omega) (by omega))
 refine eU F (fD NJ (dT.pure Em) F (fun z _=>⟨F,z⟩) ?_)
 clear Em
 rintro vr O' ⟨N,rfl,M,kr,rfl,rfl,GP,F0⟩
 refine ax (c8 ((dC M kr)) 2 bY ?_)
 refine dP ?_
 refine cQ (i:=2) results72 dm F bY F F F ?_
 exact⟨[dI 56 4 3 M kr],(by exact Sub.k .z),M,kr,F,F,GP,F0⟩
theorem Ep (w:World) [dQ prog w] (cb:Nat) (eb:Option Addr) (en ec vs B:Nat) (e_:Sl w (aD cb) [.slice eb en ec,vI (vs:Int),vI (B:Int)]) (gS:vs≤6) (jA:1≤B) (hB:B≤4096) (e:List ei) (hE:Sl w eb (bX e)) (k7:en=e.length) (i:Nat) (p n:Nat) (Ra:p<256) (mh:n<256) (hp:e[i]? =some ⟨3,p,n,0,0⟩):
  dT prog w (.iface 163 (.agg #[])) 72 [(eJ cb 0),vN i] [] (ux vs B (.letter p n)) (¬kZ vs (.letter p n) B):=by
 refine ek func72 F ntmps72 F ?_
 obtain⟨hi,_⟩:=jp hp
 refine aQ (ax (b_ bY (fun z1=>?_)))
 refine bi (bo bg (ae (cF mj F iK F F (a6 e_) (by first|omega|(simp;done)|(simp;omega)|(simp_all;done)|(simp_all;omega))) (ae (dD dX F F e_ F) (ay (eF (i:=i) dX cR F F (a6 hE) (by omega) (by rw[cE];omega)) (ae (fy [v8 3,v8 p,v8 n,vI 0,vI 0] dz F cR F F (bK _) (a6 hE) (gk hp)) (ax (b_ cR (fun z2=>?_))))))))
 refine ax (c8 [v8 3,v8 p,v8 n,vI 0,vI 0] 0 cR ?_)
 refine bq (ae (bu dz eN) (aX (bF 0 il) (aK (aG bN (aX (aY cz (by decide)) (bf (aG bN (ae (aY cz (by decide)) ?_))))))))
 refine bi (bf (aG bN (aX (bn cz (by decide)) ?_)))
 refine bW ?_
 refine bo (eR 0 dz cR) ?_
 have y7:=fun(w1:World) (hI:Inv w [oI z2 72 [v8 3,v8 p,v8 n,vI 0,vI 0],oI z1 25 [(vI 0),(vI 0),nS,nS]] w1)=>(haveI:=eP hI;NI w1 cb eb en ec vs B (hI.sl e_) gS jA hB 1 3 p n 0 0 (by omega) (by omega) (by omega))
 refine eU F (fD NJ (dT.pure y7) F (fun z _=>⟨F,z⟩) ?_)
 clear y7
 rintro vr O' ⟨N,rfl,M,kr,rfl,rfl,GP,F0⟩
 refine ax (c8 ((dC M kr)) 2 bY ?_)
 refine dP ?_
 refine cQ (i:=2) results72 dm F bY F F F ?_
 exact⟨[dI 56 4 3 M kr],(by exact Sub.k .z),M,kr,F,F,GP,F0⟩
theorem Kr (w:World) [dQ prog w] (cb:Nat) (eb:Option Addr) (en ec vs B:Nat) (e_:Sl w (aD cb) [.slice eb en ec,vI (vs:Int),vI (B:Int)]) (gS:vs≤6) (jA:1≤B) (hB:B≤4096) (e:List ei) (hE:Sl w eb (bX e)) (k7:en=e.length) (i:Nat) (a:Rx) (j:Nat) (hp:e[i]? =some ⟨8,0,0,(j:Int),0⟩) (RW: ∀(w1:World) [dQ prog w1],Inv w [] w1→dT prog w1 (.iface 163 (.agg #[])) 72 [(eJ cb 0),vN j] [] (ux vs B a) (¬kZ vs a B)):
  dT prog w (.iface 163 (.agg #[])) 72 [(eJ cb 0),vN i] [] (ux vs B (.star a)) (¬kZ vs (.star a) B):=by
 refine ek func72 F ntmps72 F ?_
 obtain⟨hi,_⟩:=jp hp
 refine aQ (ax (b_ bY (fun z1=>?_)))
 refine bi (bo bg (ae (cF mj F iK F F (a6 e_) (by first|omega|(simp;done)|(simp;omega)|(simp_all;done)|(simp_all;omega))) (ae (dD dX F F e_ F) (ay (eF (i:=i) dX cR F F (a6 hE) (by omega) (by rw[cE];omega)) (ae (fy [v8 8,v8 0,v8 0,vN j,vI 0] dz F cR F F (bK _) (a6 hE) (gk hp)) (ax (b_ cR (fun z2=>?_))))))))
 refine ax (c8 [v8 8,v8 0,v8 0,vN j,vI 0] 0 cR ?_)
 refine bq (ae (bu dz eN) (aX (bF 0 il) (aK (aG bN (aX (aY cz (by decide)) (bf (aG bN (ae (aY cz (by decide)) ?_))))))))
 refine bi (bf (aG bN (aX (aY cz (by decide)) (bf (aG bN (ae (aY cz (by decide)) ?_))))))
 refine bi (bf (aG bN (aX (bn cz (by decide)) ?_)))
 refine bW ?_
 refine a7 (ay (bu dz bM) (ae (bF 0 eO) ?_))
 have NK:=fun(w1:World) (hI:Inv w [oI z2 72 [v8 8,v8 0,v8 0,vN j,vI 0],oI z1 25 [(vI 0),(vI 0),nS,nS]] w1)=>(haveI:=eP hI;RW w1 hI.oE)
 refine eU F (fD qN (dT.pure NK) F (fun z _=>⟨F,fun h9=>z h9.1⟩) ?_)
 clear NK
 rintro vr O' ⟨N,rfl,MA,kA,rfl,rfl,rW,Ks⟩
 have By:=iC rW hB
 have NL:=fun(w1:World) (hI:Inv w [dI 56 4 3 MA kA,oI z2 72 [v8 8,v8 0,v8 0,vN j,vI 0],oI z1 25 [(vI 0),(vI 0),nS,nS]] w1)=>(haveI:=eP hI;aaf w1 cb eb en ec vs B (hI.sl e_) gS jA hB MA kA (hI.at (k:=kA) (mG 0)) rW.valid rW.vars)
 refine eU F (fD Wi (dT.pure NL) F (fun z _=>⟨F,fun h9=>z (by rw[By];exact h9.2)⟩) ?_)
 clear NL
 rintro vr O' ⟨N,rfl,M,kr,rfl,rfl,Wj,Wk⟩
 have GP:fV (vs:Int) B M (fM (.star a)):=Wj.to fun w9 h9=>xf (fun u hu=>rW.jf u hu) h9
 have F0:kZ vs (.star a) B:=⟨Ks,by rw[←By];exact Wk⟩
 refine ax (c8 ((dC M kr)) 3 bY ?_)
 refine dP ?_
 refine cQ (i:=3) results72 dm F bY F F F ?_
 exact⟨[dI 56 4 3 M kr],(by exact Sub.k .z),M,kr,F,F,GP,F0⟩
theorem NM (w:World) [dQ prog w] (cb:Nat) (eb:Option Addr) (en ec vs B:Nat) (e_:Sl w (aD cb) [.slice eb en ec,vI (vs:Int),vI (B:Int)]) (gS:vs≤6) (jA:1≤B) (hB:B≤4096) (e:List ei) (hE:Sl w eb (bX e)) (k7:en=e.length) (i:Nat) (a b:Rx) (j k:Nat) (hp:e[i]? =some ⟨4,0,0,(j:Int),(k:Int)⟩) (RW: ∀(w1:World) [dQ prog w1],Inv w [] w1→dT prog w1 (.iface 163 (.agg #[])) 72 [(eJ cb 0),vN j] [] (ux vs B a) (¬kZ vs a B)) (hpB: ∀(w1:World) [dQ prog w1],Inv w [] w1→dT prog w1 (.iface 163 (.agg #[])) 72 [(eJ cb 0),vN k] [] (ux vs B b) (¬kZ vs b B)):
  dT prog w (.iface 163 (.agg #[])) 72 [(eJ cb 0),vN i] [] (ux vs B (.iG a b)) (¬kZ vs (.iG a b) B):=by
 refine ek func72 F ntmps72 F ?_
 obtain⟨hi,_⟩:=jp hp
 refine aQ (ax (b_ bY (fun z1=>?_)))
 refine bi (bo bg (ae (cF mj F iK F F (a6 e_) (by first|omega|(simp;done)|(simp;omega)|(simp_all;done)|(simp_all;omega))) (ae (dD dX F F e_ F) (ay (eF (i:=i) dX cR F F (a6 hE) (by omega) (by rw[cE];omega)) (ae (fy [v8 4,v8 0,v8 0,vN j,vN k] dz F cR F F (bK _) (a6 hE) (gk hp)) (ax (b_ cR (fun z2=>?_))))))))
 refine ax (c8 [v8 4,v8 0,v8 0,vN j,vN k] 0 cR ?_)
 refine bq (ae (bu dz eN) (aX (bF 0 il) (aK (aG bN (aX (aY cz (by decide)) (bf (aG bN (ae (aY cz (by decide)) ?_))))))))
 refine bi (bf (aG bN (aX (aY cz (by decide)) (bf (aG bN (ae (aY cz (by decide)) ?_))))))
 refine bi (bf (aG bN (aX (aY cz (by decide)) (bf (aG bN (ae (aY cz (by decide)) ?_))))))
 refine bi (bf (aG bN (aX (aY cz (by decide)) (bf (aE (br ?_))))))
 refine fW [(0,0),(1,0),(2,0),(3,0),(5,0),(6,0),(7,0),(4,1),(8,1),(9,2),(10,2)] ?_
 refine ap F aw (ap F aw (ap F (bu dz bM) (ap F (bF 0 eO) (ap F aw (ap F (bu dz bM) (ap F (bF 0 eO) ?_))))))
 have aak:=fun(w1:World) (hI:Inv w [oI z2 72 [v8 4,v8 0,v8 0,vN j,vN k],oI z1 25 [(vI 0),(vI 0),nS,nS]] w1)=>(haveI:=eP hI;RW w1 hI.oE)
 refine iY F F (fD qN (dT.pure aak) F (fun z _=>⟨F,fun h9=>z h9.1⟩) ?_)
 clear aak
 rintro vr O' ⟨N,rfl,MA,kA,rfl,rfl,rW,Ks⟩
 refine⟨by exact Sub.d (.k (.k .z)),?_⟩
 have By:=iC rW hB
 have aal:=fun(w1:World) (hI:Inv w [dI 56 4 3 MA kA,oI z2 72 [v8 4,v8 0,v8 0,vN j,vN k],oI z1 25 [(vI 0),(vI 0),nS,nS]] w1)=>(haveI:=eP hI;hpB w1 hI.oE)
 refine iY F F (fD qN (dT.pure aal) F (fun z _=>⟨F,fun h9=>z h9.2.1⟩) ?_)
 clear aal
 rintro vr O' ⟨N,rfl,MB,kB,rfl,rfl,AI,Kt⟩
 refine⟨by exact Sub.d (.d (.k (.k .z))),?_⟩
 have T4:=iC AI hB
 have NN:=fun(w1:World) (hI:Inv w [dI 56 4 3 MB kB,dI 56 4 3 MA kA,oI z2 72 [v8 4,v8 0,v8 0,vN j,vN k],oI z1 25 [(vI 0),(vI 0),nS,nS]] w1)=>(haveI:=eP hI;V5 w1 cb eb en ec vs B (hI.sl e_) gS jA hB MA kA (hI.at (k:=kA) (mG 1)) rW.valid rW.vars MB kB (hI.at (k:=kB) (mG 0)) AI.valid (by rw[rW.vars,AI.vars]))
 refine tY F F (fD GQ (dT.pure NN) F (fun z _=>⟨F,fun h9=>z (by rw[By,T4];exact h9.2.2)⟩) ?_)
 clear NN
 rintro vr O' ⟨N,rfl,M,kr,rfl,rfl,Wj,Wk⟩
 have GP:fV (vs:Int) B M (fM (.iG a b)):=Wj.to fun w9 h9=>qv (fun u hu=>rW.jf u hu) (fun u hu=>AI.jf u hu) h9
 have F0:kZ vs (.iG a b) B:=⟨Ks,Kt,by rw[←By,←T4];exact Wk⟩
 refine cA F F (c8 ((dC M kr)) 4 bY ?_)
 refine cy ?_
 refine cM (dS ?_)
 refine cQ (i:=4) results72 dm F bY F F F ?_
 exact⟨[dI 56 4 3 M kr],(by exact Sub.k .z),M,kr,F,F,GP,F0⟩
structure Wl (cb:Nat) (eb:Option Addr) (en ec vs B:Nat) (e:List ei):Prop where
 nn: ∀(w:World) [dQ prog w],vs≤6→1≤B→B≤4096→Sl w (aD cb) [.slice eb en ec,vI (vs:Int),vI (B:Int)]→Sl w eb (bX e)→ ∀(i:Nat),e[i]? =some ⟨1,0,0,0,0⟩→dT prog w (.iface 163 (.agg #[])) 72 [(eJ cb 0),vN i] [] (ux vs B Rx.none) (¬kZ vs Rx.none B)
 nt: ∀(w:World) [dQ prog w],vs≤6→1≤B→B≤4096→Sl w (aD cb) [.slice eb en ec,vI (vs:Int),vI (B:Int)]→Sl w eb (bX e)→ ∀(i:Nat) (a:Rx) (j:Nat),e[i]? =some ⟨7,0,0,(j:Int),0⟩→(∀(w1:World) [dQ prog w1],Inv w [] w1→dT prog w1 (.iface 163 (.agg #[])) 72 [(eJ cb 0),vN j] [] (ux vs B a) (¬kZ vs a B))→dT prog w (.iface 163 (.agg #[])) 72 [(eJ cb 0),vN i] [] (ux vs B (.not a)) (¬kZ vs (.not a) B)
 al: ∀(w:World) [dQ prog w],vs≤6→1≤B→B≤4096→Sl w (aD cb) [.slice eb en ec,vI (vs:Int),vI (B:Int)]→Sl w eb (bX e)→ ∀(i:Nat) (a b:Rx) (j k:Nat),e[i]? =some ⟨5,0,0,(j:Int),(k:Int)⟩→(∀(w1:World) [dQ prog w1],Inv w [] w1→dT prog w1 (.iface 163 (.agg #[])) 72 [(eJ cb 0),vN j] [] (ux vs B a) (¬kZ vs a B))→(∀(w1:World) [dQ prog w1],Inv w [] w1→dT prog w1 (.iface 163 (.agg #[])) 72 [(eJ cb 0),vN k] [] (ux vs B b) (¬kZ vs b B))→dT prog w (.iface 163 (.agg #[])) 72 [(eJ cb 0),vN i] [] (ux vs B (.iR a b)) (¬kZ vs (.iR a b) B)
 an: ∀(w:World) [dQ prog w],vs≤6→1≤B→B≤4096→Sl w (aD cb) [.slice eb en ec,vI (vs:Int),vI (B:Int)]→Sl w eb (bX e)→ ∀(i:Nat) (a b:Rx) (j k:Nat),e[i]? =some ⟨6,0,0,(j:Int),(k:Int)⟩→(∀(w1:World) [dQ prog w1],Inv w [] w1→dT prog w1 (.iface 163 (.agg #[])) 72 [(eJ cb 0),vN j] [] (ux vs B a) (¬kZ vs a B))→(∀(w1:World) [dQ prog w1],Inv w [] w1→dT prog w1 (.iface 163 (.agg #[])) 72 [(eJ cb 0),vN k] [] (ux vs B b) (¬kZ vs b B))→dT prog w (.iface 163 (.agg #[])) 72 [(eJ cb 0),vN i] [] (ux vs B (.and a b)) (¬kZ vs (.and a b) B)
def GR (e:List ei):Bool:=e.all fun x=>!(x.op==1||x.op==5||x.op==6||x.op==7||x.op==10)
theorem nN {e:List ei} (h:GR e=true) {i:Nat} {x:ei} (hx:e[i]? =some x):x.op≠1∧x.op≠5∧x.op≠6∧x.op≠7∧x.op≠10:=by
 have:=List.all_eq_true.1 h _ (bT hx)
 simpa[and_assoc]using this
theorem CA {cb:Nat} {eb:Option Addr} {en ec vs B:Nat} {e:List ei} (h:GR e=true):Wl cb eb en ec vs B e:=
 ⟨fun _ _ _ _ _ _ _ i hp=>absurd F (nN h hp).1,fun _ _ _ _ _ _ _ i _ _ hp=>absurd F (nN h hp).2.2.2.1,fun _ _ _ _ _ _ _ i _ _ _ _ hp=>absurd F (nN h hp).2.1,fun _ _ _ _ _ _ _ i _ _ _ _ hp=>absurd F (nN h hp).2.2.1⟩
theorem kI {cb:Nat} {eb:Option Addr} {en ec vs B:Nat} {e:List ei} (Ir:Wl cb eb en ec vs B e) (gS:vs≤6) (jA:1≤B) (hB:B≤4096) (k7:en=e.length): ∀(t:Rx) (hp:t.plain=true) (i:Nat),ve e t i→ ∀(w:World) [dQ prog w],Sl w (aD cb) [.slice eb en ec,vI (vs:Int),vI (B:Int)]→Sl w eb (bX e)→dT prog w (.iface 163 (.agg #[])) 72 [(eJ cb 0),vN i] [] (ux vs B t) (¬kZ vs t B)
 | .none,hp,i,h,w,_,e_,hE=>Ir.nn w gS jA hB e_ hE i h
 | .empty,hp,i,h,w,_,e_,hE=>GO w cb eb en ec vs B e_ gS jA hB e hE k7 i h
 | .letter p n,hp,i,⟨h,h1,h2⟩,w,_,e_,hE=>Ep w cb eb en ec vs B e_ gS jA hB e hE k7 i p n h1 h2 h
 | .not a,hp,i,⟨j,h,ha⟩,w,_,e_,hE=>Ir.nt w gS jA hB e_ hE i a j h (fun w1 _ hI=>kI Ir gS jA hB k7 a (by simp only[Rx.plain,ar]at hp;exact hp) _ ha w1 (hI.sl e_) (hI.sl hE))
 | .star a,hp,i,⟨j,h,ha⟩,w,_,e_,hE=>Kr w cb eb en ec vs B e_ gS jA hB e hE k7 i a j h (fun w1 _ hI=>kI Ir gS jA hB k7 a (by simp only[Rx.plain,ar]at hp;exact hp) _ ha w1 (hI.sl e_) (hI.sl hE))
 | .iG a b,hp,i,⟨j,k,h,ha,hb⟩,w,_,e_,hE=>NM w cb eb en ec vs B e_ gS jA hB e hE k7 i a b j k h (fun w1 _ hI=>kI Ir gS jA hB k7 a (by simp only[Rx.plain,ar]at hp;exact hp.1) _ ha w1 (hI.sl e_) (hI.sl hE)) (fun w1 _ hI=>kI Ir gS jA hB k7 b (by simp only[Rx.plain,ar]at hp;exact hp.2) _ hb w1 (hI.sl e_) (hI.sl hE))
 | .iR a b,hp,i,⟨j,k,h,ha,hb⟩,w,_,e_,hE=>Ir.al w gS jA hB e_ hE i a b j k h (fun w1 _ hI=>kI Ir gS jA hB k7 a (by simp only[Rx.plain,ar]at hp;exact hp.1) _ ha w1 (hI.sl e_) (hI.sl hE)) (fun w1 _ hI=>kI Ir gS jA hB k7 b (by simp only[Rx.plain,ar]at hp;exact hp.2) _ hb w1 (hI.sl e_) (hI.sl hE))
 | .and a b,hp,i,⟨j,k,h,ha,hb⟩,w,_,e_,hE=>Ir.an w gS jA hB e_ hE i a b j k h (fun w1 _ hI=>kI Ir gS jA hB k7 a (by simp only[Rx.plain,ar]at hp;exact hp.1) _ ha w1 (hI.sl e_) (hI.sl hE)) (fun w1 _ hI=>kI Ir gS jA hB k7 b (by simp only[Rx.plain,ar]at hp;exact hp.2) _ hb w1 (hI.sl e_) (hI.sl hE))
 | .ahead a,hp,_,_,_,_,_,_=>absurd hp (by simp[Rx.plain])
 | .behind a,hp,_,_,_,_,_,_=>absurd hp (by simp[Rx.plain])
theorem r5.frame {base:World} {f:FuncId} {args:List Value} {zs:Nat} {bb:Option Addr} {bc nk:Nat} {bh:List Nat} {ls:List Lf} {r:OB} {E:List Cf} (h:r5 base f args zs bb bc nk bh ls r E) (B:List Lx.Item) {O:List Lx.Item} (cb:Option Addr) (cc:Nat) (l:List CR) (p:List OB) (hS:ml ls l p) (hp:nf p r) (hs:Sub ([eu zs (.cells (List.toArray [(.slice bb bh.length bc),(.slice cb l.length cc)]) 122 (0,0)),az cb cc 169 3 (dK l),az bb nk 3 1 (cm bh)]++B) O):
  cx prog base f args (O++gG 173 p) (fun v O'=> ∃wg wh l' p',v=.tuple #[]∧O'=([eu zs (.cells (List.toArray [(.slice bb bh.length bc),(.slice wg l'.length wh)]) 122 (0,0)),az wg wh 169 3 (dK l'),az bb nk 3 1 (cm bh)]++B)++gG 173 p'∧l'.map CR.cf=E.foldl add (l.map CR.cf)∧ml ls l' p'∧(∀x∈p,x∈p')):=by
 refine((h cb cc l p hS hp).under (B:=B) (r8 _ _ _ _ hs)).post ?_
 rintro v O' ⟨A',rfl,wg,wh,l',p',rfl,rfl,h1,h2,h3⟩
 exact⟨_,r_ _ _ _,wg,wh,l',p',F,F,h1,h2,h3⟩
def vg (nb:List Nat) (k:Nat):List Nat:=nb.take k++List.replicate (nb.length-k) 0
theorem sN {nb:List Nat} {k:Nat} (h:k≤nb.length):(vg nb k).length=nb.length:=by unfold vg;rw[aJ,db,jE];omega
theorem EC (nb:List Nat):vg nb 0=List.replicate nb.length 0:=by simp[vg]
theorem Iv (nb:List Nat):vg nb nb.length=nb:=by simp[vg]
theorem CG {nb:List Nat} {k:Nat} (h:k<nb.length):(vg nb k).set k nb[k]=vg nb (k+1):=by
 unfold vg
 rw[aC h,show nb.length-k=(nb.length-(k+1))+1 by omega,List.replicate_succ,List.set_append_right _ _ (by simp;omega),aV]
 simp[Nat.min_eq_left (Nat.le_of_lt h)]
theorem Oe {nb:List Nat} {k:Nat} (h:k<nb.length) (h0:nb[k]=0):vg nb (k+1)=vg nb k:=by
 rw[←CG h,h0]
 unfold vg
 rw[show nb.length-k=(nb.length-(k+1))+1 by omega,List.replicate_succ,List.set_append_right _ _ (by simp;omega)]
 simp[Nat.min_eq_left (Nat.le_of_lt h)]
theorem R5 (w:World) [dQ prog w] (ob:Nat) (lb:Option Addr) (lc:Nat) (cv fv:Value) (ls:List Lf) (ks:List LK) (ho:l_ w ob lb lc cv fv ls ks) (vs:Nat) (hG:iW ls vs) {K:Nat} (hK:rN ls K) (zp:K<1099511627776) (first:List Nat) (fb:Option Addr) (fc:Nat) (hfv:fv=.slice fb first.length fc) (oF:Sl w fb (cm first)) (hf: ∀k∈first,k<ls.length) (oG:first.length≤1000000):
  cB prog 75 [(eJ ob 0)] w fun v N=> ∃bb bc nk cb cc l p,v=.agg #[.slice bb (ls.map fun l=>l.d.start.toNat).length bc,.slice cb l.length cc]∧N=[az bb nk 3 1 (cm (ls.map fun l=>l.d.start.toNat)),az cb cc 169 3 (dK l)]++gG 173 p∧l.map CR.cf=(first.flatMap fun k=>fL ls (2*ls.length) (ls.map fun l=>l.d.start.toNat) k []).foldl add []∧ml ls l p:=by
 refine aA func75 F ntmps75 F ?_
 have iH:=hG.len
 obtain⟨nb,DQ⟩: ∃l:List Nat,l=(ls.map fun l=>l.d.start.toNat):=⟨_,F⟩
 have Qh:nb.length=ls.length:=by rw[DQ];simp
 refine aQ (ax (b_ lC (fun z1=>?_)))
 refine bi (bo bg (ae (cF gV F gY F F (a6 ho.bx) (by first|omega|(simp;done)|(simp;omega)|(simp_all;done)|(simp_all;omega))) (ae (dD fU F F ho.bx F) (ae (cL fU) (ax (fg ls.length da bM F F (by omega) (by omega) (fun z2=>?_)))))))
 refine ae (dc [(.slice (aD z2) ls.length ls.length),nS] Iw lC (by kernel_rfl)) (ax (b_ lC (fun z3=>?_)))
 refine ax (c8 [(.slice (aD z2) ls.length ls.length),nS] 0 lC ?_)
 refine bq (ay bg (ae (cF gV F gY F F (a6 ho.bx) (by first|omega|(simp;done)|(simp;omega)|(simp_all;done)|(simp_all;omega))) (ae (dD fU F F ho.bx F) (ae (cL fU) (bH (aK ?_))))))
 refine ep (fun(k:Nat) ρ O=>O=[oI z3 122 [(.slice (aD z2) ls.length ls.length),nS],bJ z2 ls.length 3 1 (cm (vg nb k)),oI z1 122 [nS,nS]]∧k≤ls.length∧dh [(0,(eJ ob 0)),(2,(.pointer (aD z1))),(3,(.pointer (aD z3))),(18,(.slice lb ls.length lc)),(19,vI (ls.length:Int)),(20,vI ((k:Nat):Int))] ρ) (fun k=>ls.length-k) 0 ?_ ?_
 ·exact⟨by rw[EC,Qh,show cm (List.replicate ls.length 0)=List.replicate ls.length (vI 0) by simp];rfl,bj _,(.of F)⟩
 rintro k ρ O ⟨rfl,hk,hH⟩
 obtain⟨gv,rfl⟩:=hH.elim
 clear hH
 refine aG cV (dJ (aL F (fun hc=>?_) (fun hc=>?_)))
 ·have re:k<ls.length:=by omega
  refine aE (br (aK (bo (eF (i:=k) fU fG F F (a6 ho.rw) re (by rw[ey ho.kl];omega)) (ae (fy [v8 ((lf ls k).op),vI (lf ls k).d.vars,vI (((lf ls k).d.start.toNat:Nat):Int),(.slice (lk ks k).k.nb ((lf ls k).d.next.length) ((lk ks k).k.nc)),(.slice (lk ks k).k.fb ((lf ls k).d.aT.length) ((lk ks k).k.fc)),(.slice (lk ks k).b ((lf ls k).fo.length) ((lk ks k).c)),.bool (lf ls k).la] ji F fG F F (bK _) (a6 ho.rw) (pK ho.kl re (hG.kW re).s0)) (ax (b_ fG (fun z4=>?_)))))))
  refine aS (ax (c8 [v8 ((lf ls k).op),vI (lf ls k).d.vars,vI (((lf ls k).d.start.toNat:Nat):Int),(.slice (lk ks k).k.nb ((lf ls k).d.next.length) ((lk ks k).k.nc)),(.slice (lk ks k).k.fb ((lf ls k).d.aT.length) ((lk ks k).k.fc)),(.slice (lk ks k).b ((lf ls k).fo.length) ((lk ks k).c)),.bool (lf ls k).la] 0 fG ?_))
  refine bi (a_ (ae (bu m_ eo) (ae (bF 1 da) (ay (bu ji bY) (ae (bu dm bM) (ae (bF 0 eO) (ae (dB k da bM F F (eA 2) (by first|omega|(rw[sN (by omega)];omega)) (by first|omega|(rw[ai,sN (by omega)];omega))) (ax (n7 (v:=vI (((lf ls k).d.start.toNat:Nat):Int)) (vs:=[(vI (((lf ls k).d.start.toNat:Nat):Int))]) (cs:=cm (vg nb k)) k 2 bM F F F F F (by simp) F (by rw[ai,sN (by omega)];simp;omega) ?_)))))))))
  refine dW (O':=[oI z4 118 [v8 ((lf ls k).op),vI (lf ls k).d.vars,vI (((lf ls k).d.start.toNat:Nat):Int),(.slice (lk ks k).k.nb ((lf ls k).d.next.length) ((lk ks k).k.nc)),(.slice (lk ks k).k.fb ((lf ls k).d.aT.length) ((lk ks k).k.fc)),(.slice (lk ks k).b ((lf ls k).fo.length) ((lk ks k).c)),.bool (lf ls k).la],oI z3 122 [(.slice (aD z2) ls.length ls.length),nS],bJ z2 ls.length 3 1 (cm (vg nb (k+1))),oI z1 122 [nS,nS]]) (by rw[show fC (cm (vg nb k)) k [(vI (((lf ls k).d.start.toNat:Nat):Int))]=cm (vg nb (k+1))from(by rw[←CG (by omega),show nb[k]=(lf ls k).d.start.toNat by simp only[DQ,jU,wj re]];simp[fC])];exact cd (aP _)) ?_
  refine bi (a_ (ae (dj (b:=1) k F F (by omega)) (bH ?_)))
  exact⟨k+1,by omega,[oI z3 122 [(.slice (aD z2) ls.length ls.length),nS],bJ z2 ls.length 3 1 (cm (vg nb (k+1))),oI z1 122 [nS,nS]],(by exact Sub.d (.k (.k (.k .z)))),F,by omega,(.of F)⟩
 have rh: ¬k<ls.length:=by omega
 refine cD ?_
 refine br (bo bg (ae (cF gV F eo F F (a6 ho.bx) (by first|omega|(simp;done)|(simp;omega)|(simp_all;done)|(simp_all;omega))) (ae (dD da F F ho.bx (by rw[hfv];rfl)) (ae (cL da) (bH (aK ?_))))))
 have Zw:k=ls.length:=by omega
 subst Zw
 refine T.fJ 169 3 ?_
 refine dq (O':=[oI z3 122 [(.slice (aD z2) nb.length ls.length),(.slice none (([]:List CR).length) 0)],az none 0 169 3 (dK ([]:List CR)),bJ z2 ls.length 3 1 (cm nb),oI z1 122 [nS,nS]]++gG 173 []) (by
  rw[show vg nb ls.length=nb by rw[←Qh,Iv],Qh]
  exact(cH [1,0,0,0])) ?_
 refine ep (fun(i:Nat) ρ O=> ∃(cb:Option Addr) (cc:Nat) (l:List CR) (p:List OB),O=([oI z3 122 [(.slice (aD z2) nb.length ls.length),(.slice cb l.length cc)],az cb cc 169 3 (dK l),bJ z2 ls.length 3 1 (cm nb),oI z1 122 [nS,nS]]++(gG 173 p))∧i≤first.length∧l.map CR.cf=((first.take i).flatMap fun k=>fL ls (2*ls.length) nb k []).foldl add []∧ml ls l p∧dh [(0,(eJ ob 0)),(2,(.pointer (aD z1))),(3,(.pointer (aD z3))),(36,(.slice fb first.length fc)),(37,vI (first.length:Int)),(38,vI ((i:Nat):Int))] ρ) (fun i=>first.length-i) 0 ?_ ?_
 ·exact⟨none,0,[],[],F,bj _,F,⟨by simp,List.nodup_nil,by simp⟩,(.of F)⟩
 rintro i ρ O ⟨cb,cc,l,p,rfl,hi,hm,hS,hH⟩
 obtain⟨gv,rfl⟩:=hH.elim
 clear hH
 refine aG cV (dJ (aL F (fun hc=>?_) (fun hc=>?_)))
 ·have Bz:i<first.length:=by omega
  refine aE (br (aK (aG (dB i da bM F F (a6 oF) Bz (by rw[ai];exact Bz)) (ae (dD eO F F oF (iT Bz)) (aj (a_ (de ?_)))))))
  have yu:=(r5.frame ((G2 w ob lb lc cv fv ls ks ho vs hG hK zp z3 (aD z2) ls.length ls.length nb (by rw[DQ];exact sa hG) (2*ls.length)).1 first[i] ⟨none,0,[]⟩ (hf _ (av Bz)) (by omega) .nil) [oI z1 122 [nS,nS]] (O:=[oI z3 122 [(.slice (aD z2) nb.length ls.length),(.slice cb l.length cc)],az cb cc 169 3 (dK l),bJ z2 ls.length 3 1 (cm nb),oI z1 122 [nS,nS]]) cb cc l p hS (.inr F) (by exact Sub.rf))
  refine TO.lc N_ yu ?_
  clear yu
  rintro vr O' ⟨RZ,R0,l3,p3,rfl,rfl,R1,LA,FY⟩
  refine bi (a_ (ae (dj (b:=1) i F F (by omega)) (bH ?_)))
  exact⟨i+1,by omega,_,cd (aP _),RZ,R0,l3,p3,F,by omega,by rw[aC Bz,List.flatMap_append,cT,←hm,R1];simp,LA,(.of F)⟩
 have aaG: ¬i<first.length:=by omega
 refine cD ?_
 refine aG (eR 0 m_ lC) (ax (c8 [(.slice (aD z2) nb.length ls.length),(.slice cb l.length cc)] 3 lC ?_))
 refine dP ?_
 refine cQ (i:=3) results75 m_ F lC F F F ?_
 have xF:i=first.length:=by omega
 subst xF
 rw[List.take_length]at hm
 exact⟨[bJ z2 ls.length 3 1 (cm nb),az cb cc 169 3 (dK l)]++gG 173 p,(by exact Sub.d (.fz [az cb cc 169 3 (dK l)] _ (.k (.d .rf)))),(aD z2),ls.length,ls.length,cb,cc,l,p,by rw[←DQ];rfl,by rw[←DQ],by rw[hm,←DQ],hS⟩
theorem G3 {ls:List Lf} {vs:Nat} (hG:iW ls vs) {x:Nat} (hx:x<2^vs) {m:Nat} {o:List Ob} (hm:m≤ls.length) (h:gy ls m o) {j:Nat} (hj:j<o.length):gy ls o[j].1 (me ls (o.take j) x):=by
 have h1:=h.2 _ (av hj)
 refine wk hG hx (by omega) (m:=0) .nil (h.1.sublist (List.take_sublist j o)) (fun p hp=>?_) (bj _)
 obtain⟨i,hi,rfl⟩:=List.mem_iff_getElem.1 hp
 rw[db]at hi
 rw[List.getElem_take]
 exact⟨bj _,(List.pairwise_iff_getElem.1 h.1) i j (by omega) hj (by omega),(h.2 _ (av _)).2⟩
theorem G4 {ls:List Lf} {x:Nat} {o:List Ob} {j:Nat} (hj:j<o.length):me ls (o.take (j+1)) x=ow ls (me ls (o.take j) x) (o[j].1,fm (lf ls o[j].1).d o[j].2 x):=by
 unfold me;rw[aC hj,cT];rfl
theorem WL (w:World) [dQ prog w] (ob:Nat) (lb:Option Addr) (lc:Nat) (cv fv:Value) (ls:List Lf) (ks:List LK) (ho:l_ w ob lb lc cv fv ls ks) (vs:Nat) (hG:iW ls vs) {K:Nat} (hK:rN ls K) (zp:K<1099511627776) (x:Nat) (hx:x<2^vs) (gS:vs≤6) (b0:List Nat) (sb:Option Addr) (sc:Nat) (hsb:Sl w sb (cm b0)) (J2:qP ls b0) (l0:List CR) (tb:Option Addr) (tc:Nat) (htb:Sl w tb (dK l0)) (hg: ∀y∈l0,jT ls y.cf) (my:(l0.map CR.cf).Nodup) (EA: ∀y∈l0,Sl w y.r.b (fY y.r.o)):
  cB prog 77 [(eJ ob 0),.agg #[.slice sb b0.length sc,.slice tb l0.length tc],v8 x] w fun v N=> ∃bb bc nk cb cc l p,v=.agg #[.slice bb (jq ls b0 x).length bc,.slice cb l.length cc]∧N=[az bb nk 3 1 (cm (jq ls b0 x)),az cb cc 169 3 (dK l)]++gG 173 p∧l.map CR.cf=((l0.map CR.cf).flatMap (iD ls (jq ls b0 x) x)).foldl add []∧ml ls l p:=by
 refine aA func77 F ntmps77 F ?_
 have iH:=hG.len
 obtain⟨nb,DQ⟩: ∃l:List Nat,l=jq ls b0 x:=⟨_,F⟩
 have hGB:=zq hG J2 hx
 rw[←DQ]at hGB
 have Qh:nb.length=ls.length:=hGB.len
 have R6:=J2.len
 have xS:l0.length≤K:=by
  have:=hK (l0.map CR.cf) my fun c hc=>by obtain⟨y,hy,rfl⟩:=List.mem_map.1 hc;exact hg y hy
  simpa using this
 have ag9:x<256:=eQ hx (ck (by decide) (show vs≤8 by omega))
 refine aQ (ax (ef [(.slice sb b0.length sc),(.slice tb l0.length tc)] (fun z1=>?_)))
 refine ax (b_ lC (fun z2=>?_))
 refine bi (aG (bu m_ eo) (ae (bF 1 da) (ae (cL da) (ax (fg b0.length da bM F F (by omega) (by omega) (fun z3=>?_))))))
 refine ae (dc [(.slice (aD z3) b0.length b0.length),nS] Iw lC (by kernel_rfl)) (ax (b_ lC (fun z4=>?_)))
 refine ax (c8 [(.slice (aD z3) b0.length b0.length),nS] 0 lC ?_)
 refine bq (ay bg (ae (cF gV F gY F F (a6 ho.bx) (by first|omega|(simp;done)|(simp;omega)|(simp_all;done)|(simp_all;omega))) (ae (dD fU F F ho.bx F) (ae (cL fU) (bH (aK ?_))))))
 refine ep (fun(k:Nat) ρ O=>O=[oI z4 122 [(.slice (aD z3) b0.length b0.length),nS],bJ z3 b0.length 3 1 (cm (vg nb k)),oI z2 122 [nS,nS],oI z1 122 [(.slice sb b0.length sc),(.slice tb l0.length tc)]]∧k≤ls.length∧dh [(0,(eJ ob 0)),(1,(.agg #[(.slice sb b0.length sc),(.slice tb l0.length tc)])),(2,v8 x),(4,(.pointer (aD z1))),(6,(.pointer (aD z2))),(7,(.pointer (aD z4))),(25,(.slice lb ls.length lc)),(26,vI (ls.length:Int)),(27,vN k)] ρ) (fun k=>ls.length-k) 0 ?_ ?_
 ·exact⟨by rw[EC,Qh,←R6,show cm (List.replicate b0.length 0)=List.replicate b0.length (vI 0) by simp];rfl,bj _,(.of F)⟩
 rintro k ρ O ⟨rfl,hk,hH⟩
 obtain⟨gv,rfl⟩:=hH.elim
 clear hH
 refine aG cV (dJ (aL F (fun hc=>?_) (fun hc=>?_)))
 ·have qQ:k<ls.length:=by omega
  refine aE (br (aK (bo (eF (i:=k) fU fG F F (a6 ho.rw) qQ (by rw[ey ho.kl];omega)) (ae (fy [v8 ((lf ls k).op),vI (lf ls k).d.vars,vN ((lf ls k).d.start.toNat),(.slice (lk ks k).k.nb ((lf ls k).d.next.length) ((lk ks k).k.nc)),(.slice (lk ks k).k.fb ((lf ls k).d.aT.length) ((lk ks k).k.fc)),(.slice (lk ks k).b ((lf ls k).fo.length) ((lk ks k).c)),.bool (lf ls k).la] ji F fG F F (bK _) (a6 ho.rw) (pK ho.kl qQ (hG.kW qQ).s0)) (ax (b_ fG (fun z5=>?_)))))))
  refine aS (ax (c8 [v8 ((lf ls k).op),vI (lf ls k).d.vars,vN ((lf ls k).d.start.toNat),(.slice (lk ks k).k.nb ((lf ls k).d.next.length) ((lk ks k).k.nc)),(.slice (lk ks k).k.fb ((lf ls k).d.aT.length) ((lk ks k).k.fc)),(.slice (lk ks k).b ((lf ls k).fo.length) ((lk ks k).c)),.bool (lf ls k).la] 0 fG ?_))
  refine bi (aG (bu ji eN) (ae (bF 0 il) (aX bN (aL F (fun hc=>?_) (fun hc=>?_)))))
  ·have aaH:(lf ls k).op=10:=by omega
   have Ky:(lf ls k).op=10:=by omega
   have rQ:b0.getD k 0<(lf ls k).d.next.length:=J2.lt k qQ
   obtain⟨v1,c1,g1,s1⟩:=(ho.dk _ qQ).rows.get rQ
   have Nf:(lf ls k).d.next[b0.getD k 0].length=eE (lf ls k).d:=(hG.kW qQ).len _ (av rQ)
   have R7:x<eE (lf ls k).d:=by unfold eE;rw[hG.vars _ (kX qQ)];exact hx
   have aaI:x<(lf ls k).d.next[b0.getD k 0].length:=by rw[Nf];exact R7
   refine fW [(0,0),(1,0),(2,0),(3,0),(4,0),(5,0),(6,0),(7,0),(8,0),(9,0),(10,0),(11,0),(12,0),(13,0),(14,0),(15,0),(16,0),(17,2)] ?_
   refine ap F (bu m_ eo) (ap F (bF 1 da) (ap F aw (ap F (bu ji bY) (ap F (bu dm fx) (ap F (bF 0 eY) (ap F (bu m_ eo) (ap F (bF 4 da) (ap F aw (ap F (dB k da bM F F (a6 hsb) (by omega) (by rw[ai];omega)) (ap F (dD eO F F hsb (iP (by omega))) (ap F (dB ((b0.getD k 0)) eY eo F F (a6 (ho.dk _ qQ).outer) rQ ((ho.dk _ qQ).rows.1▸rQ)) (ap F (iN da F F (a6 (ho.dk _ qQ).outer) g1) (ap F aw (ap F (dB x da bM F F (a6 s1) aaI (by rw[ai];exact aaI)) (ap F (dD eO F F s1 (ym (hG.kW qQ) rQ R7)) (ap F (dB k da bM F F (eA 2) (by first|omega|(rw[sN (by omega)];omega)) (by first|omega|(rw[ai,sN (by omega)];omega))) ?_))))))))))))))))
   refine cA F F (n7 (v:=vN (fm (lf ls k).d (b0.getD k 0) x)) (vs:=[(vN (fm (lf ls k).d (b0.getD k 0) x))]) (cs:=cm (vg nb k)) k 2 bM F F F F F (by simp) F (by rw[ai,sN (by omega)];simp;omega) ?_)
   refine fj (O':=[oI z5 118 [v8 ((lf ls k).op),vI (lf ls k).d.vars,vN ((lf ls k).d.start.toNat),(.slice (lk ks k).k.nb ((lf ls k).d.next.length) ((lk ks k).k.nc)),(.slice (lk ks k).k.fb ((lf ls k).d.aT.length) ((lk ks k).k.fc)),(.slice (lk ks k).b ((lf ls k).fo.length) ((lk ks k).c)),.bool (lf ls k).la],oI z4 122 [(.slice (aD z3) b0.length b0.length),nS],bJ z3 b0.length 3 1 (cm (vg nb (k+1))),oI z2 122 [nS,nS],oI z1 122 [(.slice sb b0.length sc),(.slice tb l0.length tc)]]) (by rw[show fC (cm (vg nb k)) k [(vN (fm (lf ls k).d (b0.getD k 0) x))]=cm (vg nb (k+1))from(by rw[←CG (by omega),show nb[k]=fm (lf ls k).d (b0.getD k 0) x by simp only[DQ,jq,jU,List.getElem_range];rw[aB Ky]];simp[fC])];exact cd (aP _)) ?_
   refine cy ?_
   refine a_ (ae (dj (b:=1) k F F (by omega)) (bH ?_))
   exact⟨k+1,by omega,[oI z4 122 [(.slice (aD z3) b0.length b0.length),nS],bJ z3 b0.length 3 1 (cm (vg nb (k+1))),oI z2 122 [nS,nS],oI z1 122 [(.slice sb b0.length sc),(.slice tb l0.length tc)]],(by exact Sub.d (.k (.k (.k (.k .z))))),F,by omega,(.of F)⟩
  have aaJ: ¬(lf ls k).op=10:=by omega
  have Ky: ¬(lf ls k).op=10:=by omega
  refine aE (a_ (ae (dj (b:=1) k F F (by omega)) (bH ?_)))
  have VV:vg nb (k+1)=vg nb k:=Oe (by omega) (by simp only[DQ,jq,jU,List.getElem_range];rw[aq Ky])
  exact⟨k+1,by omega,[oI z4 122 [(.slice (aD z3) b0.length b0.length),nS],bJ z3 b0.length 3 1 (cm (vg nb k)),oI z2 122 [nS,nS],oI z1 122 [(.slice sb b0.length sc),(.slice tb l0.length tc)]],(by exact Sub.d (.k (.k (.k (.k .z))))),by rw[VV],by omega,(.of F)⟩
 have aaK: ¬k<ls.length:=by omega
 refine cD ?_
 refine br (aG (bu m_ rY) (ae (bF 3 oW) (ae (cL oW) (bH (aK ?_)))))
 have Zw:k=ls.length:=by omega
 subst Zw
 refine T.fJ 169 3 ?_
 refine dq (O':=[oI z4 122 [(.slice (aD z3) nb.length b0.length),(.slice none (([]:List CR).length) 0)],az none 0 169 3 (dK ([]:List CR)),bJ z3 b0.length 3 1 (cm nb),oI z2 122 [nS,nS],oI z1 122 [(.slice sb b0.length sc),(.slice tb l0.length tc)]]++gG 173 []) (by
  rw[show vg nb ls.length=nb by rw[←Qh,Iv],Qh,←R6]
  exact(cH [1,0,0,0,0])) ?_
 refine ep (fun(i:Nat) ρ O=> ∃(cb:Option Addr) (cc:Nat) (l:List CR) (p:List OB),O=([oI z4 122 [(.slice (aD z3) nb.length b0.length),(.slice cb l.length cc)],az cb cc 169 3 (dK l),bJ z3 b0.length 3 1 (cm nb),oI z2 122 [nS,nS],oI z1 122 [(.slice sb b0.length sc),(.slice tb l0.length tc)]]++(gG 173 p))∧i≤l0.length∧l.map CR.cf=(((l0.take i).map CR.cf).flatMap (iD ls nb x)).foldl add []∧ml ls l p∧dh [(0,(eJ ob 0)),(1,(.agg #[(.slice sb b0.length sc),(.slice tb l0.length tc)])),(2,v8 x),(4,(.pointer (aD z1))),(6,(.pointer (aD z2))),(7,(.pointer (aD z4))),(54,(.slice tb l0.length tc)),(55,vI (l0.length:Int)),(56,vN i)] ρ) (fun i=>l0.length-i) 0 ?_ ?_
 ·exact⟨none,0,[],[],F,bj _,F,⟨by simp,List.nodup_nil,by simp⟩,(.of F)⟩
 rintro i ρ O ⟨cb,cc,l,p,rfl,hi,hm,hS,hH⟩
 obtain⟨gv,rfl⟩:=hH.elim
 clear hH
 refine aG cV (dJ (aL F (fun hc=>?_) (fun hc=>?_)))
 ·have BA:i<l0.length:=by omega
  have hgy:=hg _ (av BA)
  have Of:((l0.take (i+1)).map CR.cf).flatMap (iD ls nb x)=((l0.take i).map CR.cf).flatMap (iD ls nb x)++iD ls nb x l0[i].cf:=by rw[aC BA,bm,List.flatMap_append];simp only[cJ,gM,List.flatMap_cons,List.flatMap_nil,dp]
  refine aE (br (aK (aG (eF (i:=i) oW jY F F (a6 htb) BA (by rw[qw];omega)) (ae (fy [vI l0[i].k,vN (l0[i].s),(.slice l0[i].r.b l0[i].r.o.length l0[i].r.c)] mv F jY F F (bK _) (a6 htb) (tZ BA)) (ax (b_ jY (fun z6=>?_)))))))
  refine ax (c8 [vI l0[i].k,vN (l0[i].s),(.slice l0[i].r.b l0[i].r.o.length l0[i].r.c)] 0 jY ?_)
  refine bq (ae (bu mv bM) (ae (bF 0 eO) (aX cV (aL F (fun hc=>?_) (fun hc=>?_)))))
  ·have aaL:l0[i].k<0:=hc
   refine cD ?_
   refine a_ (ae (dj (b:=1) i F F (by omega)) (bH ?_))
   have e9:iD ls nb x l0[i].cf=[]:=by unfold iD;rw[aB (show l0[i].cf.k<0 from aaL)]
   exact⟨i+1,by omega,[oI z4 122 [(.slice (aD z3) nb.length b0.length),(.slice cb l.length cc)],az cb cc 169 3 (dK l),bJ z3 b0.length 3 1 (cm nb),oI z2 122 [nS,nS],oI z1 122 [(.slice sb b0.length sc),(.slice tb l0.length tc)]]++gG 173 p,(by exact Sub.d (.k (.k (.k (.k (.k .rf)))))),cb,cc,l,p,F,by omega,by rw[Of,e9,dp];exact hm,hS,(.of F)⟩
  obtain⟨kk,BB,oH,pu,WM⟩: ∃k:Nat,l0[i].k=(k:Int)∧k<ls.length∧l0[i].s<(lf ls k).d.next.length∧gy ls k l0[i].r.o:=hgy.elim (fun h=>absurd h.1 (by show¬l0[i].k= -1;omega)) id
  have Wq:l0[i].r.o.length≤12:=by have:=WM.len;omega
  refine aE (aQ (aS (bq (ae (bu mv CC) (ae (bF 0 kq) (ae (cL kq) (bH (aK ?_))))))))
  refine ep (fun(j:Nat) ρ O=> ∃(r3:OB) (p3:List OB),O=([oI z6 169 [vI l0[i].k,vN (l0[i].s),(.slice l0[i].r.b l0[i].r.o.length l0[i].r.c)],oI z4 122 [(.slice (aD z3) nb.length b0.length),(.slice cb l.length cc)],az cb cc 169 3 (dK l),bJ z3 b0.length 3 1 (cm nb),oI z2 122 [nS,nS],oI z1 122 [(.slice sb b0.length sc),(.slice tb l0.length tc)]]++(gG 173 p3))∧j≤l0[i].r.o.length∧r3.o=me ls (l0[i].r.o.take j) x∧nf p3 r3∧ml ls l p3∧dh [(0,(eJ ob 0)),(1,(.agg #[(.slice sb b0.length sc),(.slice tb l0.length tc)])),(2,v8 x),(4,(.pointer (aD z1))),(6,(.pointer (aD z2))),(7,(.pointer (aD z4))),(11,(.pointer (aD z6))),(12,(.slice r3.b r3.o.length r3.c)),(54,(.slice tb l0.length tc)),(55,vI (l0.length:Int)),(56,vN i),(64,(.slice l0[i].r.b l0[i].r.o.length l0[i].r.c)),(65,vI (l0[i].r.o.length:Int)),(66,vN j)] ρ) (fun j=>l0[i].r.o.length-j) 0 ?_ ?_
  ·exact⟨⟨none,0,[]⟩,p,F,bj _,F,.inr F,hS,(.of F)⟩
  rintro j ρ O ⟨r3,p3,rfl,hj,Ys,FY,LA,hH⟩
  obtain⟨gv,rfl⟩:=hH.elim
  clear hH
  refine aG cV (dJ (aL F (fun hc=>?_) (fun hc=>?_)))
  ·have oX:j<l0[i].r.o.length:=by omega
   have Rg:=WM.2 _ (av oX)
   have Og:l0[i].r.o[j].1<ls.length:=by omega
   have Mp:l0[i].r.o[j].2<(lf ls l0[i].r.o[j].1).d.next.length:=Rg.2
   obtain⟨v2,c2,g2,s2⟩:=(ho.dk _ Og).rows.get Mp
   have hl2:(lf ls l0[i].r.o[j].1).d.next[l0[i].r.o[j].2].length=eE (lf ls l0[i].r.o[j].1).d:=(hG.kW Og).len _ (av Mp)
   have Ri:x<eE (lf ls l0[i].r.o[j].1).d:=by unfold eE;rw[hG.vars _ (kX Og)];exact hx
   have aaM:x<(lf ls l0[i].r.o[j].1).d.next[l0[i].r.o[j].2].length:=by rw[hl2];exact Ri
   have aes:=((hG.kW Og).toVal.iw Mp Ri).1
   refine aE (br (aK (aG (eF (i:=j) kq iu F F (a6 (EA _ (av BA))) oX (by rw[kJ];omega)) (ae (fy [vN (l0[i].r.o[j].1),vN (l0[i].r.o[j].2)] ll F iu F F (bK _) (a6 (EA _ (av BA))) (ou oX)) (ax (b_ iu (fun z7=>?_)))))))
   refine ax (c8 [vN (l0[i].r.o[j].1),vN (l0[i].r.o[j].2)] 0 iu ?_)
   refine bi ?_
   refine fW [(0,0),(1,0),(2,0),(3,0),(4,0),(5,0),(6,0),(7,0),(8,0),(9,0),(10,0),(11,0),(12,0),(13,0),(14,0),(15,0),(16,0),(17,0),(18,0),(19,0),(20,0),(21,0),(22,2),(23,2)] ?_
   refine ap F aw (ap F aw (ap F (kn (i:=0) ll bM F F (by decide)) (ap F (bF 0 eO) (ap F aw (ap F bg (ap F (cF gV F gY F F (a6 ho.bx) (by first|omega|(simp;done)|(simp;omega)|(simp_all;done)|(simp_all;omega))) (ap F (dD fU F F ho.bx F) (ap F (kn (i:=0) ll bM F F (by decide)) (ap F (bF 0 eO) (ap F (eF (i:=l0[i].r.o[j].1) fU fG F F (a6 ho.rw) Og (by rw[ey ho.kl];omega)) (ap F (cF ji F bY F F (a6 ho.rw) (by rw[ey ho.kl];omega)) (ap F (cF dm F fx F F (a6 ho.rw) (by rw[ey ho.kl];show _*7+1<_;omega)) (ap F (dD eY F F ho.rw (rZ ho.kl Og 3 F F)) (ap F (kn (i:=1) ll bM F F (by decide)) (ap F (bF 0 eO) (ap F (dB (l0[i].r.o[j].2) eY eo F F (a6 (ho.dk _ Og).outer) Mp ((ho.dk _ Og).rows.1▸Mp)) (ap F (iN da F F (a6 (ho.dk _ Og).outer) g2) (ap F aw (ap F (dB x da bM F F (a6 s2) aaM (by rw[ai];exact aaM)) (ap F (dD eO F F s2 (ym (hG.kW Og) Mp Ri)) (ap F (uL (cs:=[vN (l0[i].r.o[j].1),vN (fm (lf ls l0[i].r.o[j].1).d l0[i].r.o[j].2 x)]) ll bM iu (by kernel_rfl)) ?_)))))))))))))))))))))
   have NN:=fun(w1:World) (hI:Inv w ([oI z7 173 [vN (l0[i].r.o[j].1),vN (l0[i].r.o[j].2)],oI z6 169 [vI l0[i].k,vN (l0[i].s),(.slice l0[i].r.b l0[i].r.o.length l0[i].r.c)],oI z4 122 [(.slice (aD z3) nb.length b0.length),(.slice cb l.length cc)],az cb cc 169 3 (dK l),bJ z3 b0.length 3 1 (cm nb),oI z2 122 [nS,nS],oI z1 122 [(.slice sb b0.length sc),(.slice tb l0.length tc)]]++(gG 173 p3)) w1)=>(haveI:=eP hI;aaC w1 ob lb lc cv fv ls ks (hI.out ho) vs hG r3 (nf.sl hI (fun it gf=>ah _ gf) FY) (l0[i].r.o[j].1,fm (lf ls l0[i].r.o[j].1).d l0[i].r.o[j].2 x) l0[i].r.o[j].1 (by rw[Ys];exact G3 hG hx (Nat.le_of_lt oH) WM oX) (aI _) Og aes)
   refine cA F F (eh Oc (aO NN) ?_)
   clear NN
   rintro vr O' ⟨N,rfl,pl,r4,rfl,rfl,hr4,aet⟩
   have hp4:nf (pl++p3) r4:=by
    rcases aet with⟨rfl,rfl⟩|rfl
    ·exact FY.mono fun x hx=>by simpa using hx
    ·exact .inl (by simp)
   refine fj (O':=([oI z7 173 [vN (l0[i].r.o[j].1),vN (l0[i].r.o[j].2)],oI z6 169 [vI l0[i].k,vN (l0[i].s),(.slice l0[i].r.b l0[i].r.o.length l0[i].r.c)],oI z4 122 [(.slice (aD z3) nb.length b0.length),(.slice cb l.length cc)],az cb cc 169 3 (dK l),bJ z3 b0.length 3 1 (cm nb),oI z2 122 [nS,nS],oI z1 122 [(.slice sb b0.length sc),(.slice tb l0.length tc)]]++((gG 173 pl)++(gG 173 p3)))) (by exact gh [] _ (gG 173 pl) (gG 173 p3)) ?_
   refine cA F F (eV F F cz ?_)
   refine cy ?_
   refine a_ (ae (dj (b:=1) j F F (by omega)) (bH ?_))
   exact⟨j+1,by omega,_,(by rw[EB];exact(by exact Sub.d (.k (.k (.k (.k (.k (.k .rf)))))))),r4,pl++p3,F,by omega,by rw[G4 oX,←Ys,hr4],hp4,LA.mono fun x hx=>ah _ hx,(.of F)⟩
  have Ix: ¬j<l0[i].r.o.length:=by omega
  refine cD ?_
  refine br ?_
  have hje:j=l0[i].r.o.length:=by omega
  subst hje
  rw[List.take_length]at Ys
  have aaN:gy ls kk r3.o:=by rw[Ys];exact zr hG hx (Nat.le_of_lt oH) WM
  obtain⟨v3,c3,g3,s3⟩:=(ho.dk _ oH).rows.get pu
  have Qv:(lf ls kk).d.next[l0[i].s].length=eE (lf ls kk).d:=(hG.kW oH).len _ (av pu)
  have hx3:x<eE (lf ls kk).d:=by unfold eE;rw[hG.vars _ (kX oH)];exact hx
  have aaO:x<(lf ls kk).d.next[l0[i].s].length:=by rw[Qv];exact hx3
  have vh:=((hG.kW oH).toVal.iw pu hx3).1
  refine fW [(0,0),(1,0),(2,0),(3,0),(4,0),(5,0),(6,0),(7,0),(8,1),(9,2)] ?_
  refine ap F aw (ap F bg (ap F (cF gV F gY F F (a6 ho.bx) (by first|omega|(simp;done)|(simp;omega)|(simp_all;done)|(simp_all;omega))) (ap F (dD fU F F ho.bx F) (ap F (bu mv bM) (ap F (cg (bF 0 eO) (v':=vN kk) (by show Value.int _ _=_;rw[BB])) (ap F (eF (i:=kk) fU fG F F (a6 ho.rw) oH (by rw[ey ho.kl];omega)) (ap F (fy [v8 ((lf ls kk).op),vI (lf ls kk).d.vars,vN ((lf ls kk).d.start.toNat),(.slice (lk ks kk).k.nb ((lf ls kk).d.next.length) ((lk ks kk).k.nc)),(.slice (lk ks kk).k.fb ((lf ls kk).d.aT.length) ((lk ks kk).k.fc)),(.slice (lk ks kk).b ((lf ls kk).fo.length) ((lk ks kk).c)),.bool (lf ls kk).la] ji F fG F F (bK _) (a6 ho.rw) (pK ho.kl oH (hG.kW oH).s0)) ?_)))))))
  refine cG F F (b_ fG (fun z8=>⟨by exact Sub.d (.k (.k (.k (.k (.k (.k .rf)))))),?_⟩))
  refine cA F F (c8 [v8 ((lf ls kk).op),vI (lf ls kk).d.vars,vN ((lf ls kk).d.start.toNat),(.slice (lk ks kk).k.nb ((lf ls kk).d.next.length) ((lk ks kk).k.nc)),(.slice (lk ks kk).k.fb ((lf ls kk).d.aT.length) ((lk ks kk).k.fc)),(.slice (lk ks kk).b ((lf ls kk).fo.length) ((lk ks kk).c)),.bool (lf ls kk).la] 0 fG ?_)
  refine cy ?_
  refine aG (bu ji bY) (ae (bu dm fx) (ae (bF 0 eY) (ae (bu mv bM) (ae (bF 1 eO) (ae (dB (l0[i].s) eY eo F F (a6 (ho.dk _ oH).outer) pu ((ho.dk _ oH).rows.1▸pu)) (ae (iN da F F (a6 (ho.dk _ oH).outer) g3) (ay (dB x da bM F F (a6 s3) aaO (by rw[ai];exact aaO)) (ae (dD eO F F s3 (ym (hG.kW oH) pu hx3)) (aj (bo (bu mv bM) (ae (cg (bF 1 eO) (v':=vN kk) (by show Value.int _ _=_;rw[BB])) (aN (ay (dc [vN kk,vN (fm (lf ls kk).d l0[i].s x),(.slice r3.b r3.o.length r3.c)] CE jY (by kernel_rfl)) ?_)))))))))))))
  have T9:=WF w hG hK zp (eJ ob 0) z4 (aD z3) b0.length nb [oI z8 118 [v8 ((lf ls kk).op),vI (lf ls kk).d.vars,vN ((lf ls kk).d.start.toNat),(.slice (lk ks kk).k.nb ((lf ls kk).d.next.length) ((lk ks kk).k.nc)),(.slice (lk ks kk).k.fb ((lf ls kk).d.aT.length) ((lk ks kk).k.fc)),(.slice (lk ks kk).b ((lf ls kk).fo.length) ((lk ks kk).c)),.bool (lf ls kk).la],oI z6 169 [vI l0[i].k,vN (l0[i].s),(.slice l0[i].r.b l0[i].r.o.length l0[i].r.c)],bJ z3 b0.length 3 1 (cm nb),oI z2 122 [nS,nS],oI z1 122 [(.slice sb b0.length sc),(.slice tb l0.length tc)]] cb cc l p3 ⟨(kk:Int),fm (lf ls kk).d l0[i].s x,r3⟩ LA (.inr ⟨kk,F,oH,vh,aaN⟩) FY (O:=[oI z8 118 [v8 ((lf ls kk).op),vI (lf ls kk).d.vars,vN ((lf ls kk).d.start.toNat),(.slice (lk ks kk).k.nb ((lf ls kk).d.next.length) ((lk ks kk).k.nc)),(.slice (lk ks kk).k.fb ((lf ls kk).d.aT.length) ((lk ks kk).k.fc)),(.slice (lk ks kk).b ((lf ls kk).fo.length) ((lk ks kk).c)),.bool (lf ls kk).la],oI z6 169 [vI l0[i].k,vN (l0[i].s),(.slice l0[i].r.b l0[i].r.o.length l0[i].r.c)],oI z4 122 [(.slice (aD z3) nb.length b0.length),(.slice cb l.length cc)],az cb cc 169 3 (dK l),bJ z3 b0.length 3 1 (cm nb),oI z2 122 [nS,nS],oI z1 122 [(.slice sb b0.length sc),(.slice tb l0.length tc)]]) (by exact Sub.fz [oI z8 118 [v8 ((lf ls kk).op),vI (lf ls kk).d.vars,vN ((lf ls kk).d.start.toNat),(.slice (lk ks kk).k.nb ((lf ls kk).d.next.length) ((lk ks kk).k.nc)),(.slice (lk ks kk).k.fb ((lf ls kk).d.aT.length) ((lk ks kk).k.fc)),(.slice (lk ks kk).b ((lf ls kk).fo.length) ((lk ks kk).c)),.bool (lf ls kk).la],oI z6 169 [vI l0[i].k,vN (l0[i].s),(.slice l0[i].r.b l0[i].r.o.length l0[i].r.c)]] _ (.fz [oI z8 118 [v8 ((lf ls kk).op),vI (lf ls kk).d.vars,vN ((lf ls kk).d.start.toNat),(.slice (lk ks kk).k.nb ((lf ls kk).d.next.length) ((lk ks kk).k.nc)),(.slice (lk ks kk).k.fb ((lf ls kk).d.aT.length) ((lk ks kk).k.fc)),(.slice (lk ks kk).b ((lf ls kk).fo.length) ((lk ks kk).c)),.bool (lf ls kk).la],oI z6 169 [vI l0[i].k,vN (l0[i].s),(.slice l0[i].r.b l0[i].r.o.length l0[i].r.c)]] _ (.k (.k (.k (.k (.k .z)))))))
  refine TO.lc G1 T9 ?_
  clear T9
  rintro vr O' ⟨Ey,Ez,l4,rfl,rfl,WH,WI⟩
  refine bi (aG (bu ji bY) (ae (bu dm e7) (ae (bF 2 eS) (ay (dB ((fm (lf ls kk).d l0[i].s x)) eS gq F F (a6 (ho.dk _ oH).aT) (by rw[(hG.kW oH).fin];exact vh) (by rw[ai,(hG.kW oH).fin];exact vh)) (aX (iN uT F F (a6 (ho.dk _ oH).aT) (qe (hG.kW oH) vh)) (T.cond F (fun hc=>?_) (fun hc=>?_)))))))
  ·have AL:dR (lf ls kk).d (fm (lf ls kk).d l0[i].s x)=true:=hc
   refine a_ (ay (bu mv bM) (ae (cg (bF 3 eO) (v':=vN kk) (by show Value.int _ _=_;rw[BB])) (aN ?_)))
   have ED:=(r5.frame ((G2 w ob lb lc cv fv ls ks ho vs hG hK zp z4 (aD z3) b0.length b0.length nb hGB (2*ls.length)).2 kk r3 oH (by omega) (aaN.mono (Nat.le_succ _))) [oI z8 118 [v8 ((lf ls kk).op),vI (lf ls kk).d.vars,vN ((lf ls kk).d.start.toNat),(.slice (lk ks kk).k.nb ((lf ls kk).d.next.length) ((lk ks kk).k.nc)),(.slice (lk ks kk).k.fb ((lf ls kk).d.aT.length) ((lk ks kk).k.fc)),(.slice (lk ks kk).b ((lf ls kk).fo.length) ((lk ks kk).c)),.bool (lf ls kk).la],oI z6 169 [vI l0[i].k,vN (l0[i].s),(.slice l0[i].r.b l0[i].r.o.length l0[i].r.c)],oI z2 122 [nS,nS],oI z1 122 [(.slice sb b0.length sc),(.slice tb l0.length tc)]] (O:=[oI z4 122 [(.slice (aD z3) nb.length b0.length),(.slice Ey l4.length Ez)],az Ey Ez 169 3 (dK l4),oI z8 118 [v8 ((lf ls kk).op),vI (lf ls kk).d.vars,vN ((lf ls kk).d.start.toNat),(.slice (lk ks kk).k.nb ((lf ls kk).d.next.length) ((lk ks kk).k.nc)),(.slice (lk ks kk).k.fb ((lf ls kk).d.aT.length) ((lk ks kk).k.fc)),(.slice (lk ks kk).b ((lf ls kk).fo.length) ((lk ks kk).c)),.bool (lf ls kk).la],oI z6 169 [vI l0[i].k,vN (l0[i].s),(.slice l0[i].r.b l0[i].r.o.length l0[i].r.c)],bJ z3 b0.length 3 1 (cm nb),oI z2 122 [nS,nS],oI z1 122 [(.slice sb b0.length sc),(.slice tb l0.length tc)]]) Ey Ez l4 p3 WI FY (by exact Sub.k (.k (.fz [oI z8 118 [v8 ((lf ls kk).op),vI (lf ls kk).d.vars,vN ((lf ls kk).d.start.toNat),(.slice (lk ks kk).k.nb ((lf ls kk).d.next.length) ((lk ks kk).k.nc)),(.slice (lk ks kk).k.fb ((lf ls kk).d.aT.length) ((lk ks kk).k.fc)),(.slice (lk ks kk).b ((lf ls kk).fo.length) ((lk ks kk).c)),.bool (lf ls kk).la],oI z6 169 [vI l0[i].k,vN (l0[i].s),(.slice l0[i].r.b l0[i].r.o.length l0[i].r.c)]] _ (.k (.k (.k (.k .z))))))))
   refine TO.lc CF ED ?_
   clear ED
   rintro vr O' ⟨cb5,cc5,l5,p5,rfl,rfl,hm5,hS5,hp5⟩
   refine bi (a_ (ae (dj (b:=1) i F F (by omega)) (bH ?_)))
   have e9:iD ls nb x l0[i].cf=⟨(kk:Int),fm (lf ls kk).d l0[i].s x,r3.o⟩::gm ls (2*ls.length) nb kk r3.o:=by
    unfold iD
    rw[aq (show¬l0[i].cf.k<0 from by show¬l0[i].k<0;omega),Ys]
    simp only[CR.cf,BB,Int.toNat_natCast]
    rw[aB AL]
   exact⟨i+1,by omega,[oI z4 122 [(.slice (aD z3) nb.length b0.length),(.slice cb5 l5.length cc5)],az cb5 cc5 169 3 (dK l5),bJ z3 b0.length 3 1 (cm nb),oI z2 122 [nS,nS],oI z1 122 [(.slice sb b0.length sc),(.slice tb l0.length tc)]]++gG 173 p5,(by exact Sub.k (.k (.k (.d (.d (.k (.k .rf))))))),cb5,cc5,l5,p5,F,by omega,by rw[Of,cT,←hm,e9,hm5,WH];rfl,hS5,(.of F)⟩
  have AL: ¬dR (lf ls kk).d (fm (lf ls kk).d l0[i].s x)=true:=by rw[hc];simp
  refine aE (a_ (ae (dj (b:=1) i F F (by omega)) (bH ?_)))
  have e9:iD ls nb x l0[i].cf=⟨(kk:Int),fm (lf ls kk).d l0[i].s x,r3.o⟩::[]:=by
   unfold iD
   rw[aq (show¬l0[i].cf.k<0 from by show¬l0[i].k<0;omega),Ys]
   simp only[CR.cf,BB,Int.toNat_natCast]
   rw[aq AL]
  exact⟨i+1,by omega,[oI z4 122 [(.slice (aD z3) nb.length b0.length),(.slice Ey l4.length Ez)],az Ey Ez 169 3 (dK l4),bJ z3 b0.length 3 1 (cm nb),oI z2 122 [nS,nS],oI z1 122 [(.slice sb b0.length sc),(.slice tb l0.length tc)]]++gG 173 p3,(by exact Sub.k (.k (.d (.d (.k (.k (.k .rf))))))),Ey,Ez,l4,p3,F,by omega,by rw[Of,cT,←hm,e9,WH];rfl,WI,(.of F)⟩
 have ag_: ¬i<l0.length:=by omega
 refine cD ?_
 refine aG (eR 0 m_ lC) (ax (c8 [(.slice (aD z3) nb.length b0.length),(.slice cb l.length cc)] 3 lC ?_))
 refine dP ?_
 refine cQ (i:=3) results77 m_ F lC F F F ?_
 have xF:i=l0.length:=by omega
 subst xF
 rw[List.take_length]at hm
 exact⟨[bJ z3 b0.length 3 1 (cm nb),az cb cc 169 3 (dK l)]++gG 173 p,(by exact Sub.d (.fz [az cb cc 169 3 (dK l)] _ (.k (.d (.d .rf))))),(aD z3),b0.length,b0.length,cb,cc,l,p,by rw[←DQ];rfl,by rw[←DQ],by rw[hm,←DQ],hS⟩
theorem R8 (w:World) [dQ prog w] (y:CR):
  cB prog 117 [(.agg #[vI y.k,vN y.s,(.slice y.r.b y.r.o.length y.r.c)])] w fun v N=>v=.bool (decide (y.cf.k<0)&&y.cf.o.isEmpty)∧N=[]:=by
 refine aA func117 F ntmps117 F ?_
 refine aQ (ax (ef [vI y.k,vN y.s,(.slice y.r.b y.r.o.length y.r.c)] (fun om=>?_)))
 refine aj (aG (bu mv bM) (ae (bF 0 eO) (ae cV ?_)))
 by_cases hk:y.k<0
 ·refine ae (bn aw hk) ?_
  refine ao (bu mv CC) (ao (bF 0 kq) (ao (cL kq) (ao bN (ae bw (aR ?_)))))
  refine aF (.bool (decide ((y.r.o.length:Int)=0))) results117 F ?_
  exact⟨[],Sub.z,am Value.bool (by show _=(decide (y.k<0)&&y.r.o.isEmpty);rw[aZ hk,Bool.true_and];cases y.r.o<;>simp<;>omega),F⟩
 refine ae (aY aw hk) (du (ae bU (aR ?_)))
 refine aF (.bool false) results117 F ?_
 exact⟨[],Sub.z,am Value.bool (by show _=(decide (y.k<0)&&y.r.o.isEmpty);rw[a8 hk,Bool.false_and]),F⟩
theorem R9 (w:World) [dQ prog w] (ov:Value) (bh:List Nat) (bv:Value) (cb:Option Addr) (cc:Nat) (l:List CR) (hl:Sl w cb (dK l)) (hK:l.length<137438953472):
  cB prog 78 [ov,(.agg #[bv,(.slice cb l.length cc)])] w fun v N=>v=.bool (qt ⟨bh,l.map CR.cf⟩)∧N=[]:=by
 refine aA func78 F ntmps78 F ?_
 refine aQ (ax (ef [bv,(.slice cb l.length cc)] (fun z1=>?_)))
 refine aj (aG (bu m_ rY) (ae (bF 0 oW) ?_))
 have Eb:=fun(w1:World) (hI:Inv w [oI z1 122 [bv,(.slice cb l.length cc)]] w1)=>(haveI:=eP hI;(show cB _ _ _ _ (fun v N=>v=Value.bool (qt ⟨bh,l.map CR.cf⟩)∧N=[])from by
   have h9:=rX w1 cb cc l (hI.sl hl) (by omega) ((.func (.func 117) #[] #[])) (fun y=>decide (y.cf.k<0)&&y.cf.o.isEmpty) (fun y hy=>cZ (first:=[]) (args:=[(.agg #[vI y.k,vN y.s,(.slice y.r.b y.r.o.length y.r.c)])]) (gU:=[]) WN (R8 w1 y))
   have e9:(l.any fun y=>decide (y.cf.k<0)&&y.cf.o.isEmpty)=qt ⟨bh,l.map CR.cf⟩:=by unfold qt;rw[List.any_map];rfl
   rw[e9]at h9
   exact h9))
 refine TO.lc N2 (aO Eb) ?_
 clear Eb
 rintro vr O' ⟨N,rfl,rfl,rfl⟩
 refine aR ?_
 refine aF (.bool (qt ⟨bh,l.map CR.cf⟩)) results78 F ?_
 exact⟨[],Sub.z,F,F⟩
theorem EE {α β:Type} {B:Nat} {f:α→List β}: ∀ {l:List α},(∀x∈l,(f x).length≤B)→(l.flatMap f).length≤B*l.length
 | [],_=>by simp
 |x::l,h=>by
  have h1:=h x (by simp);have h2:=EE (l:=l) fun y hy=>h y (by simp[hy])
  rw[List.flatMap_cons,aJ,bQ,Nat.mul_succ];omega
theorem aaP (w:World) [dQ prog w] (ov:Value) (bb:Option Addr) (bc:Nat) (bh:List Nat) (WO:Sl w bb (cm bh)) (R6:bh.length≤12) (hbn: ∀n∈bh.map (fun y:Nat=>(y:Int)),nH n) (cb:Option Addr) (cc:Nat) (l:List CR) (hl:Sl w cb (dK l)) (hK:l.length<137438953472) {ls:List Lf} {vs:Nat} (hG:iW ls vs) (hg: ∀y∈l,jT ls y.cf) (Rg: ∀y∈l,y.r.o.length≤12) (EA: ∀y∈l,Sl w y.r.b (fY y.r.o)):
  cB prog 76 [ov,(.agg #[(.slice bb bh.length bc),(.slice cb l.length cc)])] w fun v N=>v=str (St.key ⟨bh,l.map CR.cf⟩)∧N=[]:=by
 refine aA func76 F ntmps76 F ?_
 refine aQ (ax (ef [(.slice bb bh.length bc),(.slice cb l.length cc)] (fun z1=>?_)))
 refine aj (aQ (aS (bq (ae (bu m_ rY) (ae (bF 0 oW) (ae (cL oW) (bH (aK (T.fJ 9 1 ?_)))))))))
 refine ep (fun(i:Nat) ρ O=> ∃(kb:Option Addr) (kc:Nat),O=[az kb kc 9 1 (strs ((l.take i).map fun y=>y.cf.key)),oI z1 122 [(.slice bb bh.length bc),(.slice cb l.length cc)]]∧i≤l.length∧dh [(1,(.agg #[(.slice bb bh.length bc),(.slice cb l.length cc)])),(3,(.pointer (aD z1))),(4,(str [])),(5,(.slice kb i kc)),(12,(.slice cb l.length cc)),(13,vI (l.length:Int)),(14,vN i)] ρ) (fun i=>l.length-i) 0 ?_ ?_
 ·exact⟨none,0,F,bj _,(.of F)⟩
 rintro i ρ O ⟨kb,kc,rfl,hi,hH⟩
 obtain⟨gv,rfl⟩:=hH.elim
 clear hH
 refine aG cV (dJ (aL F (fun hc=>?_) (fun hc=>?_)))
 ·have ri:i<l.length:=by omega
  have hgy:=hg _ (av ri)
  refine aE (br (aK (aG (eF (i:=i) oW jY F F (a6 hl) ri (by rw[qw];omega)) (ae (fy [vI l[i].k,vN (l[i].s),(.slice l[i].r.b l[i].r.o.length l[i].r.c)] mv F jY F F (bK _) (a6 hl) (tZ ri)) (ax (b_ jY (fun z2=>?_)))))))
  refine ax (c8 [vI l[i].k,vN (l[i].s),(.slice l[i].r.b l[i].r.o.length l[i].r.c)] 0 jY ?_)
  refine bi (a_ (ay (eR 0 mv jY) ?_))
  have oh:=fun(w1:World) (hI:Inv w [oI z2 169 [vI l[i].k,vN (l[i].s),(.slice l[i].r.b l[i].r.o.length l[i].r.c)],az kb kc 9 1 (strs ((l.take i).map fun y=>y.cf.key)),oI z1 122 [(.slice bb bh.length bc),(.slice cb l.length cc)]] w1)=>(haveI:=eP hI;GX w1 l[i].k l[i].s l[i].r (hI.sl (EA _ (av ri))) (hgy.num hG) (hgy.Ws hG))
  refine TO.lc GY (aO oh) ?_
  clear oh
  rintro vr O' ⟨N,rfl,rfl,rfl⟩
  refine ax (dL (v:=str l[i].cf.key) EF GA F F F (fun z3=>?_))
  refine ax (dE 2 EF EF GA F F F F (by rw[zu,ai,db];omega) (by decide) (Src.row (j:=0) F (by simp)) (by rfl) (by omega) (by decide) (by decide) (fun z4 LB=>?_))
  refine aj (a_ (ae (dj (b:=1) i F F (by omega)) (bH ?_)))
  exact⟨i+1,by omega,[az z4 LB 9 1 ((strs ((l.take i).map fun y=>y.cf.key))++[str l[i].cf.key]),oI z1 122 [(.slice bb bh.length bc),(.slice cb l.length cc)]],(by exact Sub.d (.d (.k (.k .z)))),z4,LB,by rw[aC ri,bm];simp[strs],by omega,(.of F)⟩
 have Ti: ¬i<l.length:=by omega
 refine cD ?_
 refine a7 ?_
 have rS:=(show cx _ _ _ _ _ (fun v O'=> ∃A',O'=A'++[oI z1 122 [(.slice bb bh.length bc),(.slice cb l.length cc)]]∧(v=Value.tuple #[]∧A'=[az kb kc 9 1 (strs ((l.map fun y=>y.cf.key).mergeSort xZ))]))from by
   have h9:=Oh w kb kc ((l.take i).map fun y=>y.cf.key) (by rw[ai,db];omega)
   rw[ai,db,Nat.min_eq_left hi]at h9
   have e9:(l.map fun y=>y.cf.key).mergeSort xZ=((l.take i).map fun y=>y.cf.key).mergeSort xZ:=by rw[bt (show l.length≤i by omega)]
   rw[e9]
   exact h9.under (B:=[oI z1 122 [(.slice bb bh.length bc),(.slice cb l.length cc)]]) (by exact Sub.rf))
 refine TO.lc WP rS ?_
 clear rS
 rintro vr O' ⟨A1,rfl,rfl,rfl⟩
 refine bi (aG (bu m_ eo) (ae (bF 1 da) ?_))
 have Em:=fun(w1:World) (hI:Inv w [az kb kc 9 1 (strs ((l.map fun y=>y.cf.key).mergeSort xZ)),oI z1 122 [(.slice bb bh.length bc),(.slice cb l.length cc)]] w1)=>(haveI:=eP hI;(show cB _ _ _ _ (fun v N=> ∃b' c',v=Value.slice b' (jw (bh.map fun y:Nat=>(y:Int))).length c'∧N=[az b' c' 5 1 (dy (jw (bh.map fun y:Nat=>(y:Int))))])from by
   have h9:=Im w1 bb bc (bh.map fun y:Nat=>(y:Int)) (by rw[gN];exact hI.sl WO) hbn (by rw[ai];omega)
   rw[ai]at h9
   exact h9))
 refine TO.lc we (aO Em) ?_
 clear Em
 rintro vr O' ⟨N,rfl,jb,jc,rfl,rfl⟩
 
 refine aS (bq (ay (cL EF) (bH (aK ?_))))
 obtain⟨ks,pu⟩: ∃k,k=(l.map fun y=>y.cf.key).mergeSort xZ:=⟨_,F⟩
 have oH:ks.length=l.length:=by rw[pu,List.length_mergeSort,ai]
 have xF:i=l.length:=by omega
 have Qp: ∀k∈ks,k.length≤400:=fun k hk=>by
  rw[pu]at hk
  obtain⟨y,hy,rfl⟩:=List.mem_map.1 ((List.mem_mergeSort).1 hk)
  have h1:=qu ((hg y hy).num hG);have h2:=Rg y hy
  have h3:y.cf.nums.length=y.r.o.length*2+2:=by show(t_ y.r.o).length+1+1=_;rw[Is]
  have h4:y.cf.key=jw y.cf.nums:=rfl
  rw[h4];omega
 refine dq (O':=[az jb jc 5 1 (dy (jw (bh.map fun y:Nat=>(y:Int)))),az kb kc 9 1 (strs ks),oI z1 122 [(.slice bb bh.length bc),(.slice cb l.length cc)]]) (by rw[pu];exact(by exact Sub.rf)) ?_
 refine ep (fun(j:Nat) ρ O=> ∃(tb:Option Addr) (tc:Nat),O=[az tb tc 5 1 (dy (jw (bh.map fun y:Nat=>(y:Int))++(ks.take j).flatMap (fun k=>124::k))),az kb kc 9 1 (strs ks),oI z1 122 [(.slice bb bh.length bc),(.slice cb l.length cc)]]∧j≤i∧dh [(1,(.agg #[(.slice bb bh.length bc),(.slice cb l.length cc)])),(3,(.pointer (aD z1))),(4,(str [])),(5,(.slice kb i kc)),(8,(.slice tb ((jw (bh.map fun y:Nat=>(y:Int))++(ks.take j).flatMap (fun k=>124::k)).length) tc)),(29,(.slice kb i kc)),(30,vI (i:Int)),(31,vN j)] ρ) (fun j=>i-j) 0 ?_ ?_
 ·exact⟨jb,jc,by simp,bj _,⟨F,F,F,F,(show Value.slice jb (jw (bh.map fun y:Nat=>(y:Int))).length jc=_ by simp),F,F,F,trivial⟩⟩
 rintro j ρ O ⟨tb,tc,rfl,hj,hH⟩
 obtain⟨gv,rfl⟩:=hH.elim
 clear hH
 have oG:((ks.take j).flatMap (fun k=>(124:UInt8)::k)).length≤401*ks.length:=by
  have U_:=EE (B:=401) (f:=fun k:Key=>(124:UInt8)::k) (l:=ks.take j) (fun k hk=>by have:=Qp k (List.mem_of_mem_take hk);simp;omega)
  have:=List.length_take_le j ks
  exact bE U_ (Nat.mul_le_mul_left _ (by rw[db];omega))
 have Ic:=qu hbn
 rw[ai]at Ic
 refine aG cV (dJ (aL F (fun hc=>?_) (fun hc=>?_)))
 ·have aaQ:j<i:=by omega
  have U8:j<ks.length:=by omega
  have hkj:=Qp _ (av U8)
  refine aE (br (aK (aG (dB j EF GA F F (eA 1) aaQ (by rw[zu];exact U8)) (ae (iN wZ F F (eA 1) (Oi U8)) (aj (a_ (aN (ax (dL (v:=.int .u8 124) kR eN F F F (fun z6=>?_))))))))))
  refine ax (dE 1 kR kR eN F F F F (by first|(simp;done)|(simp;omega)) (by decide) (Src.row (j:=0) F (by simp)) (by simp[fS]) (by simp only[aJ];omega) (by decide) (by decide) (fun z7 DZ=>?_))
  refine aN (ax (Bh (l:=ks[j].length) (s:=ks[j]) 1 kR wZ eN F F F F (by first|(simp;done)|(simp;omega)) F (by simp only[aJ];omega) (by decide) (by decide) (fun z9 qq=>?_)))
  refine aj (a_ (ae (dj (b:=1) j F F (by omega)) (bH ?_)))
  have e9:jw (bh.map fun y:Nat=>(y:Int))++(ks.take (j+1)).flatMap (fun k=>124::k)=jw (bh.map fun y:Nat=>(y:Int))++(ks.take j).flatMap (fun k=>124::k)++[124]++ks[j]:=by rw[aC U8,List.flatMap_append];simp
  exact⟨j+1,by omega,[az z9 qq 5 1 (((dy (jw (bh.map fun y:Nat=>(y:Int))++(ks.take j).flatMap (fun k=>124::k)))++[.int .u8 124])++dy ks[j]),az kb kc 9 1 (strs ks),oI z1 122 [(.slice bb bh.length bc),(.slice cb l.length cc)]],(by exact Sub.d (.k (.k (.k .z)))),z9,qq,by rw[e9];simp[dy],by omega,⟨F,F,F,F,(am (fun n9:Nat=>Value.slice z9 n9 qq) (by rw[e9];simp;omega)),F,F,F,trivial⟩⟩
 have ahb: ¬j<i:=by omega
 refine cD ?_
 refine bo (DA (l:=jw (bh.map fun y:Nat=>(y:Int))++(ks.take j).flatMap (fun k=>124::k)) kR wZ il F (mG 0) F) (aR ?_)
 refine aF (str (jw (bh.map fun y:Nat=>(y:Int))++(ks.take j).flatMap (fun k=>124::k))) results76 F ?_
 exact⟨[],Sub.z,by rw[bt (show ks.length≤j by omega),pu];unfold St.key;rw[List.map_map];rfl,F⟩
end Go.Proofs.YtgdbfideeeegmaaGreatDoor


/- Contracts of functions of the program, and what they answer. Conditions: those each theorem names. -/
import Derived.Test.YtgdbfideeeegmaaGreatDoorA2
import Derived.Test.YtgdbfideeeegmaaGreatDoorA5
import Derived.Test.YtgdbfideeeegmaaGreatDoorA7
import Derived.Test.YtgdbfideeeegmaaGreatDoorA6
set_option linter.unusedSectionVars false
set_option linter.unusedSimpArgs false
set_option linter.unusedVariables false
set_option linter.unnecessarySimpa false
set_option maxHeartbeats 8000000
set_option maxRecDepth 20000
namespace Go.Proofs.YtgdbfideeeegmaaGreatDoor
open Go.Lx Go.RowKit _root_.Go.Proofs.Tryz
theorem Cw (w:World) [cG Tryz.prog w] (cb:Nat) (eb:Option Addr) (en ec vs B L:Nat) (dz:Sl w (aD cb) [.slice eb en ec,vI (vs:Int),vI (B:Int)]) (eT:vs≤6) (hL:2^vs=L) (gn:1≤B) (hB:B≤4096)
  (tr:Key→Nat→Key) (fin:Key→Bool) (start:Key) (Rp:Key→SR→Prop) (r0:SR) (fk fn ff:Value) (BQ:Rp start r0) (Np:r0.ik=[]) (qT: ∀k r,Rp k r→dS r.a=true∧dS r.b=true)
  (vh: ∀w1 k r,Inv w [] w1→Rp k r→(∀it∈r.ik,it.P w1)→dn Tryz.prog w1 fk [r.a] [] (fun v O'=>v=str k∧O'=[]))
  (dT: ∀w1 k r x,Inv w [] w1→Rp k r→(∀it∈r.ik,it.P w1)→x<L→dn Tryz.prog w1 fn [r.a,.int .u8 (x:Int)] [] (fun v N=> ∃r',v=r'.a∧N=r'.ik∧Rp (tr k x) r'))
  (wC: ∀w1 k r,Inv w [] w1→Rp k r→(∀it∈r.ik,it.P w1)→dn Tryz.prog w1 ff [r.a] [] (fun v O'=>v=.bool (fin k)∧O'=[])):
  cB Tryz.prog w (.iface 163 (.agg #[])) 141 [(cW (aD cb) 0),r0.a,fk,fn,ff] [] (fun v N=> ∃M k',v=dV M k'∧N=[dI 56 4 3 M k']∧eF (vs:Int) B M (fun u=>fin (u.foldl tr start))∧vi tr L start B) (¬vi tr L start B):=by
 refine cJ func141 F ntmps141 F ?_
 have LA:L≤64:=by rw[←hL];exact Nat.pow_le_pow_right (by decide) eT
 obtain⟨Vr,Fo⟩:=qT _ _ BQ
 refine ai (ak F (aR aY F (fun z1=>?_)))
 refine ae (ai (ah F (ak F (bM (v:=r0.a) du bV F F Vr (fun z2=>?_)))))
 refine aj F (ae (ai (ak F (i_ str (fun n:Nat=>Value.int .i64 (n:Int)) (fun m3=>?_)))))
 refine ah F (ah F ?_)
 have mw:=(cD (O:=[cm str (fun n:Nat=>Value.int .i64 (n:Int)) m3 [],am (aD z2) 1 56 1 [r0.a],oI z1 25 [(vI 0),(vI 0),nS,nS]]) fun w1 hI=>haveI:=di hI;vh w1 start r0 hI.kw BQ (by rw[Np];simp))
 refine ak F (dx mw F F ?_)
 clear mw
 rintro vr O' ⟨N,rfl,rfl,rfl⟩
 refine ak F (ep (a:=start) (v:=(0:Nat)) 0 fL (eN.string ra) F F F F (by simp) ?_)
 refine ah F (aj F (ae (ai (ah F (ad (aK F) (ad (br iR F aO F F (ay dz) (by first|omega|(simp;done)|(simp;omega)|(simp_all;done)|(simp_all;omega))) (ad (cd cS F F (ay dz) F) (ad (bG (cs:=[vN vs,(vI 0),nS,nS]) gD aY (by kernel_rfl)) (ak F (aR aY F (fun z4=>?_)))))))))))
 refine ak F (a8 (vs:=[vN vs,(vI 0),nS,nS]) 0 aY F F F F ?_)
 refine ae (aB (ai (aj F (ae (aG (T.dJ 4 1 ?_))))))
 refine T.dJ 56 1 ?_
 refine ck (O':=[am (aD z2) 1 56 1 (cO c1 [r0]),cm str (fun n:Nat=>Value.int .i64 (n:Int)) m3 [start].zipIdx,am none 0 56 1 (bO []),am none 0 4 1 (bf []),oI z4 25 [vN vs,(vI 0),nS,nS],oI z1 25 [(vI 0),(vI 0),nS,nS]]++(a_ 3 []++fa [r0])) (by rw[show fa [r0]=[] by simp[fa,Np]];exact(ar [4,3,0,0,0,0] F)) ?_
 refine cM (fun(s:Nat) ρ O=> ∃(ks:List Key) (qs:List SR) (rq:List Rec) (sb ob fb:Option Addr) (sc oc fc:Nat),O=([am sb sc 56 1 (cO c1 qs),cm str (fun n:Nat=>Value.int .i64 (n:Int)) m3 ks.zipIdx,am ob oc 56 1 (bO rq),am fb fc 4 1 (bf ((ks.take s).map fin)),oI z4 25 [vN vs,(vI 0),(.slice ob s oc),(.slice fb s fc)],oI z1 25 [(vI 0),(vI 0),nS,nS]]++(a_ 3 rq++fa qs))∧tV tr L start s=ks∧xu tr L start ks∧DW Rp ks qs∧ks.length≤B∧ni tr L ks s (nums rq)∧cw [(0,(cW (aD cb) 0)),(1,r0.a),(2,fk),(3,fn),(4,ff),(10,(.pointer (aD z1))),(11,(.slice sb qs.length sc)),(12,(.map (some m3))),(13,(.pointer (aD z4))),(14,vN s)] ρ) (fun s=>B-s) 0 ?_ ?_
 ·exact⟨[start],[r0],[],(aD z2),none,none,1,0,0,F,F,xu.one _ _ _,DW.one BQ,by simpa using gn,⟨F,Nat.zero_le _,fun i hi=>absurd hi (by omega),fun i hi=>absurd hi (by omega)⟩,(.of F)⟩
 rintro s ρ O ⟨ks,qs,rq,sb,ob,fb,sc,oc,fc,rfl,lV,hF,hR,Gq,hE,hH⟩
 obtain⟨fE,rfl⟩:=hH.elim
 clear hH
 have DG:=hR.1
 have E8:rq.length=s:=by have:=hE.len;simpa using this
 have Hd:=hE.le
 refine aB (ai (ah F (ah F (ad (bS du F) (ad (bT F F) (ae (aC F (fun hc=>?_) (fun hc=>?_))))))))
 ·have nA:s<qs.length:=by omega
  have Kg:s<ks.length:=by omega
  refine av (aB (aG (ai (ah F (ad (aK F) (ad (br iR F aO F F (ay dz) (by first|omega|(simp;done)|(simp;omega)|(simp_all;done)|(simp_all;omega))) (ad (cd cS F F (ay dz) F) (ad (a7 (kV (v:=vs) F F (by omega)) (v':=vN L) (by rw[hL])) (ak F (bX (m:=L) bK aO F F (by omega) (by omega) (fun z5=>?_)))))))))))
  refine aj F (ae (aB (ai (ah F (ad (bS bK F) (ah F (ae (aG ?_))))))))
  refine cM (fun(x:Nat) ρ O=> ∃(cX:List Key) (ef:List SR) (ys:List Int) (tb:Option Addr) (tc:Nat),O=([am (aD z5) L 3 1 (ints ys),am tb tc 56 1 (cO c1 ef),cm str (fun n:Nat=>Value.int .i64 (n:Int)) m3 cX.zipIdx,am ob oc 56 1 (bO rq),am fb fc 4 1 (bf ((ks.take s).map fin)),oI z4 25 [vN vs,(vI 0),(.slice ob s oc),(.slice fb s fc)],oI z1 25 [(vI 0),(vI 0),nS,nS]]++(a_ 3 rq++fa ef))∧x≤L∧ys.length=L∧xu tr L start cX∧DW Rp cX ef∧cX.length≤B∧cX=((List.range x).map (tr (ks.getD s []))).foldl add ks∧(∀i,i<x→ys[i]? =some ((ix (tr (ks.getD s []) i) cX:Nat):Int))∧cw [(0,(cW (aD cb) 0)),(1,r0.a),(2,fk),(3,fn),(4,ff),(10,(.pointer (aD z1))),(11,(.slice tb ef.length tc)),(12,(.map (some m3))),(13,(.pointer (aD z4))),(14,vN s),(15,(.slice (aD z5) L L)),(45,vI (L:Int)),(46,vN x)] ρ) (fun x=>L-x) 0 ?_ ?_
  ·exact⟨ks,qs,List.replicate L 0,sb,sc,by simp,Nat.zero_le _,by simp,hF,hR,Gq,F,fun i hi=>absurd hi (by omega),(.of F)⟩
  rintro x ρ O ⟨cX,ef,ys,tb,tc,rfl,hx,wD,BS,rR,AE,lC,tW,hH⟩
  obtain⟨fE,rfl⟩:=hH.elim
  clear hH
  have nL:ks<+:cX:=lC▸eL _ _
  have lY:cX.getD s []=ks.getD s []:=je nL Kg
  have Pn:=nL.length_le
  have AF:=rR.1
  have pE:s<ef.length:=by omega
  have H1:=rR.2 s pE
  rw[lY]at H1
  refine ai (ad (bT F F) (ae (aB (aC F (fun hc=>?_) (fun hc=>?_)))))
  ·have lL:x<L:=by omega
   have BT:x<L:=by omega
   have DX:ks.getD s []∈cX:=by rw[←lY,List.getD_eq_getElem?_getD,List.getElem?_eq_getElem (by omega),Option.getD_some];exact List.getElem_mem _
   refine av (aB (aG (ai (ah F (aj F (ae (ai (ah F (ah F (ah F (ad (cV (i:=s) du bV F F (cP (mG 1 F)) pE (by rw[gj (f:=c1) (n:=1) (fun _=>rfl)];omega)) (ad (cd bK F F (cP (mG 1 F)) (Nt pE)) (ah F (ad (et cS eu F (ny (by omega))) ?_))))))))))))))
   have AG:=(cD (O:=([am (aD z5) L 3 1 (ints ys),am tb tc 56 1 (cO c1 ef),cm str (fun n:Nat=>Value.int .i64 (n:Int)) m3 cX.zipIdx,am ob oc 56 1 (bO rq),am fb fc 4 1 (bf ((ks.take s).map fin)),oI z4 25 [vN vs,(vI 0),(.slice ob s oc),(.slice fb s fc)],oI z1 25 [(vI 0),(vI 0),nS,nS]]++(a_ 3 rq++fa ef))) fun w1 hI=>haveI:=di hI;dT w1 (ks.getD s []) ef[s] x hI.kw H1 (fun it dZ=>hI.holds it (List.mem_append_right _ (List.mem_append_right _ (mx pE dZ)))) BT)
   refine ak F (dx AG F F ?_)
   clear AG
   rintro vr O' ⟨N9,rfl,r9,rfl,rfl,BU⟩
   obtain⟨Nq,Ro⟩:=qT _ _ BU
   refine cQ (O':=([am (aD z5) L 3 1 (ints ys),am tb tc 56 1 (cO c1 ef),cm str (fun n:Nat=>Value.int .i64 (n:Int)) m3 cX.zipIdx,am ob oc 56 1 (bO rq),am fb fc 4 1 (bf ((ks.take s).map fin)),oI z4 25 [vN vs,(vI 0),(.slice ob s oc),(.slice fb s fc)],oI z1 25 [(vI 0),(vI 0),nS,nS]]++(r9.ik++(a_ 3 rq++fa ef)))) (by exact eg [] _ r9.ik (a_ 3 rq++fa ef)) ?_
   refine aj F (ae (ai (ah F (ah F (ah F ?_)))))
   have u7:=(cD (O:=([am (aD z5) L 3 1 (ints ys),am tb tc 56 1 (cO c1 ef),cm str (fun n:Nat=>Value.int .i64 (n:Int)) m3 cX.zipIdx,am ob oc 56 1 (bO rq),am fb fc 4 1 (bf ((ks.take s).map fin)),oI z4 25 [vN vs,(vI 0),(.slice ob s oc),(.slice fb s fc)],oI z1 25 [(vI 0),(vI 0),nS,nS]]++(r9.ik++(a_ 3 rq++fa ef)))) fun w1 hI=>haveI:=di hI;vh w1 (tr (ks.getD s []) x) r9 hI.kw BU (fun it dZ=>hI.holds it (List.mem_append_right _ (List.mem_append_left _ dZ))))
   refine ak F (dx u7 F F ?_)
   clear u7
   rintro vr O' ⟨N,rfl,rfl,rfl⟩
   refine ad (a7 (gL (a:=tr (ks.getD s []) x) fL aO (eN.string ra) F F (mG 2 F)) (v':=(.tuple #[vN (if tr (ks.getD s []) x∈cX then ix (tr (ks.getD s []) x) cX else 0),.bool (decide (tr (ks.getD s []) x∈cX))])) (by rw[iE];generalize tr (ks.getD s []) x=k9;by_cases h9:k9∈cX<;>simp[h9])) (ah F (ad (aV (vs:=_) F F) (ad (aV (vs:=_) F F) (aj F (aj F (ae (aB (ai (ah F (ad (gy F) (ae (T.cond F (fun hc=>?_) (fun hc=>?_)))))))))))))
   ·have xw:tr (ks.getD s []) x∉cX:=by simpa using hc
    have iF:=yx xw
    refine ai (ah F (ad (bS du F) (aj F (ae (ai (ah F (ah F (ah F ?_))))))))
    have vj:=(cD (O:=([am (aD z5) L 3 1 (ints ys),am tb tc 56 1 (cO c1 ef),cm str (fun n:Nat=>Value.int .i64 (n:Int)) m3 cX.zipIdx,am ob oc 56 1 (bO rq),am fb fc 4 1 (bf ((ks.take s).map fin)),oI z4 25 [vN vs,(vI 0),(.slice ob s oc),(.slice fb s fc)],oI z1 25 [(vI 0),(vI 0),nS,nS]]++(r9.ik++(a_ 3 rq++fa ef)))) fun w1 hI=>haveI:=di hI;vh w1 (tr (ks.getD s []) x) r9 hI.kw BU (fun it dZ=>hI.holds it (List.mem_append_right _ (List.mem_append_left _ dZ))))
    refine ak F (dx vj F F ?_)
    clear vj
    rintro vr O' ⟨N,rfl,rfl,rfl⟩
    refine ah F (ak F (me (a:=tr (ks.getD s []) x) (v:=ef.length) 2 fL (eN.string ra) F F F F (by rw[jN];exact xw) ?_))
    refine ae (ai (ah F (ah F (ak F (bM (v:=r9.a) du bV F F Nq (fun z6=>?_))))))
    refine ak F (bY 2 du du bV F F F F (by rw[gj (f:=c1) (n:=1) (fun _=>rfl)]) (by decide) (Src.row (j:=0) F (by simp)) (by simp[Nq]) (by omega) (by decide) (by decide) (fun z7 Am=>?_))
    refine aj F (ae (ai (ah F (ah F (ad (aK F) (ad (br iR F aO F F (ay dz) (by first|omega|(simp;done)|(simp;omega)|(simp_all;done)|(simp_all;omega))) (ad (cd cS F F (ay dz) F) (ad (jF F F) (ae (aC F (fun hc=>?_) (fun hc=>?_)))))))))))
    ·have Nr:ef.length≥B:=by omega
     refine aJ (ad (bG rn ve F) (ad (mv AA F) ?_))
     exact de F (rp F (fun _=>⟨F,(BS.add DX BT).Po (by rw[iF];simp;omega)⟩))
    have Ns: ¬ef.length≥B:=by omega
    refine av (aJ (ah F (ah F (ah F (ad (cV (i:=x) bK aO F F (cP (mG 1 F)) (by omega) (by rw[List.length_map];omega)) (ak F (lB (j:=x) (v:=vI (ef.length:Int)) (vs:=[(vI (ef.length:Int))]) (cs:=ints ys) 1 aO F F F F F (by simp) F (by first|(simp;omega)|(simp_all;omega)) ?_)))))))
    refine cQ (O':=([am (aD z6) 1 56 1 [r9.a],am (aD z5) L 3 1 (ints (ys.set x ((ix (tr (ks.getD s []) x) (add cX (tr (ks.getD s []) x)):Nat):Int))),am z7 Am 56 1 ((cO c1 ef)++[r9.a]),cm str (fun n:Nat=>Value.int .i64 (n:Int)) m3 (cX.zipIdx++[(tr (ks.getD s []) x,ef.length)]),am ob oc 56 1 (bO rq),am fb fc 4 1 (bf ((ks.take s).map fin)),oI z4 25 [vN vs,(vI 0),(.slice ob s oc),(.slice fb s fc)],oI z1 25 [(vI 0),(vI 0),nS,nS]]++(r9.ik++(a_ 3 rq++fa ef)))) (by rw[show dK (ints ys) x [(vI (ef.length:Int))]=ints (ys.set x ((ix (tr (ks.getD s []) x) (add cX (tr (ks.getD s []) x)):Nat):Int))from(by rw[iF,ei xw,show ix (tr (ks.getD s []) x) [tr (ks.getD s []) x]=0 by simp[ix],Nat.add_zero,←AF];simp[dK])];exact bn (List.Sublist.refl _)) ?_
    refine ae (aJ (ad (cx (a:=x) (b:=1) F F (by omega)) (ah F (ae ?_))))
    have wE: ∀y,y<x→tr (ks.getD s []) y∈cX:=fun y hy=>by rw[lC,dc];exact .inr (List.mem_map_of_mem (List.mem_range.2 hy))
    have vk: ∀i,i<x+1→(ys.set x ((ix (tr (ks.getD s []) x) (add cX (tr (ks.getD s []) x)):Nat):Int))[i]? =some ((ix (tr (ks.getD s []) i) (add cX (tr (ks.getD s []) x)):Nat):Int):=fun i hi=>by
     by_cases e:i=x
     ·subst e;rw[List.getElem?_set_self (by omega)]
     ·rw[List.getElem?_set_ne (fun h=>e h.symm),tW i (by omega),e_ (gk _ _) (wE i (by omega))]
    have s9:=rR.snoc BU
    rw[←iF]at s9
    have Tf:=BS.add DX BT
    exact⟨x+1,by omega,[am (aD z5) L 3 1 (ints (ys.set x ((ix (tr (ks.getD s []) x) (add cX (tr (ks.getD s []) x)):Nat):Int))),am z7 Am 56 1 (cO c1 (ef++[r9])),cm str (fun n:Nat=>Value.int .i64 (n:Int)) m3 ((add cX (tr (ks.getD s []) x)).zipIdx),am ob oc 56 1 (bO rq),am fb fc 4 1 (bf ((ks.take s).map fin)),oI z4 25 [vN vs,(vI 0),(.slice ob s oc),(.slice fb s fc)],oI z1 25 [(vI 0),(vI 0),nS,nS]]++(a_ 3 rq++fa (ef++[r9])),(by rw[su,oH,iF,show(cX++[tr (ks.getD s []) x]).zipIdx=cX.zipIdx++[(tr (ks.getD s []) x,ef.length)] by rw[List.zipIdx_append,AF];simp];exact qn _ _ _ _ _ (by exact Sub.d (.k (.k (.k (.k (.k (.k (.k .z))))))))),add cX (tr (ks.getD s []) x),ef++[r9],_,z7,Am,F,by omega,by simp[wD],Tf,s9,by rw[iF];simp;omega,by rw[fw,←lC],vk,⟨F,F,F,F,F,F,(show Value.slice z7 (ef.length+1) Am=_ by rw[List.length_append];rfl),F,F,F,F,F,F,trivial⟩⟩
   have xw:tr (ks.getD s []) x∈cX:=by simpa using hc
   have iF:=yy xw
   refine av (aJ (ah F (ah F (ah F (ad (cV (i:=x) bK aO F F (cP (mG 0 F)) (by omega) (by rw[List.length_map];omega)) (ak F (lB (j:=x) (v:=vN (if tr (ks.getD s []) x∈cX then ix (tr (ks.getD s []) x) cX else 0)) (vs:=[(vN (if tr (ks.getD s []) x∈cX then ix (tr (ks.getD s []) x) cX else 0))]) (cs:=ints ys) 0 aO F F F F F (by simp) F (by first|(simp;omega)|(simp_all;omega)) ?_)))))))
   refine cQ (O':=([am (aD z5) L 3 1 (ints (ys.set x ((ix (tr (ks.getD s []) x) (add cX (tr (ks.getD s []) x)):Nat):Int))),am tb tc 56 1 (cO c1 ef),cm str (fun n:Nat=>Value.int .i64 (n:Int)) m3 cX.zipIdx,am ob oc 56 1 (bO rq),am fb fc 4 1 (bf ((ks.take s).map fin)),oI z4 25 [vN vs,(vI 0),(.slice ob s oc),(.slice fb s fc)],oI z1 25 [(vI 0),(vI 0),nS,nS]]++(r9.ik++(a_ 3 rq++fa ef)))) (by rw[show dK (ints ys) x [(vN (if tr (ks.getD s []) x∈cX then ix (tr (ks.getD s []) x) cX else 0))]=ints (ys.set x ((ix (tr (ks.getD s []) x) (add cX (tr (ks.getD s []) x)):Nat):Int))from(by rw[iF,if_pos xw];simp[dK])];exact bn (List.Sublist.refl _)) ?_
   refine ae (aJ (ad (cx (a:=x) (b:=1) F F (by omega)) (ah F (ae ?_))))
   have wE: ∀y,y<x→tr (ks.getD s []) y∈cX:=fun y hy=>by rw[lC,dc];exact .inr (List.mem_map_of_mem (List.mem_range.2 hy))
   have vk: ∀i,i<x+1→(ys.set x ((ix (tr (ks.getD s []) x) (add cX (tr (ks.getD s []) x)):Nat):Int))[i]? =some ((ix (tr (ks.getD s []) i) (add cX (tr (ks.getD s []) x)):Nat):Int):=fun i hi=>by
    by_cases e:i=x
    ·subst e;rw[List.getElem?_set_self (by omega)]
    ·rw[List.getElem?_set_ne (fun h=>e h.symm),tW i (by omega),e_ (gk _ _) (wE i (by omega))]
   have s9:=rR
   rw[←iF]at s9
   exact⟨x+1,by omega,[am (aD z5) L 3 1 (ints (ys.set x ((ix (tr (ks.getD s []) x) (add cX (tr (ks.getD s []) x)):Nat):Int))),am tb tc 56 1 (cO c1 ef),cm str (fun n:Nat=>Value.int .i64 (n:Int)) m3 ((add cX (tr (ks.getD s []) x)).zipIdx),am ob oc 56 1 (bO rq),am fb fc 4 1 (bf ((ks.take s).map fin)),oI z4 25 [vN vs,(vI 0),(.slice ob s oc),(.slice fb s fc)],oI z1 25 [(vI 0),(vI 0),nS,nS]]++(a_ 3 rq++fa ef),(by rw[iF];exact dO _ _ _ _ (by exact Sub.rf)),add cX (tr (ks.getD s []) x),ef,_,tb,tc,F,by omega,by simp[wD],BS.add DX BT,s9,by rw[iF];exact AE,by rw[fw,←lC],vk,(.of F)⟩
  have lM: ¬x<L:=by omega
  refine bJ ?_
  refine T.ds [am tb tc 56 1 (cO c1 ef),oI z4 25 [vN vs,(vI 0),(.slice ob s oc),(.slice fb s fc)]] [(0,0),(1,0),(2,0),(5,0),(6,0),(7,0),(8,0),(9,0),(10,0),(11,0),(3,1),(4,1),(15,0),(12,1),(13,1),(14,1),(16,2),(17,2),(18,2)] (by exact Sub.d (.k (.d (.d (.d (.k .z)))))) ?_
  refine ao F (aN bW F dM F F) (ao F (aQ 1 du F F F F) (ao F (az F) (ao F (aN bW F cA F F) (ao F (aQ 1 df F F F F) (ao F (az F) (ao F (az F) (ao F (az F) (ao F (cV (i:=s) du bV F F (cP (mG 0 F)) pE (by rw[gj (f:=c1) (n:=1) (fun _=>rfl)];omega)) (ao F (cd bK F F (cP (mG 0 F)) (Nt pE)) ?_)))))))))
  refine bo F F (bM (v:=(.slice (aD z5) L L)) du bV F F F (fun z9=>⟨by exact Sub.d (.d (.k (.d (.d (.d (.k .z)))))),?_⟩))
  refine bo F F (bY 4 du du bV F F F F (by simp;omega) (by decide) (Src.row (j:=0) F (by simp)) (by simp[dS]) (by omega) (by decide) (by decide) (fun nC iT=>⟨by exact Sub.d (.d (.k (.d (.d (.d (.k .z)))))),?_⟩))
  refine ao F (aN bW F dM F F) ?_
  have tf:=(cD (O:=([am (aD z9) 1 56 1 [(.slice (aD z5) L L)],am (aD z5) L 3 1 (ints ys),am tb tc 56 1 (cO c1 ef),cm str (fun n:Nat=>Value.int .i64 (n:Int)) m3 cX.zipIdx,am nC iT 56 1 ((bO rq)++[(.slice (aD z5) L L)]),am fb fc 4 1 (bf ((ks.take s).map fin)),oI z4 25 [vN vs,(vI 0),(.slice ob s oc),(.slice fb s fc)],oI z1 25 [(vI 0),(vI 0),nS,nS]]++(a_ 3 rq++fa ef))) fun w1 hI=>haveI:=di hI;wC w1 (ks.getD s []) ef[s] hI.kw H1 (fun it dZ=>hI.holds it (List.mem_append_right _ (List.mem_append_right _ (mx pE dZ)))))
  refine bo F F (dx tf F F ?_)
  clear tf
  rintro vr O' ⟨N,rfl,rfl,rfl⟩
  refine⟨by exact Sub.d (.d (.k (.d (.d (.d (.k .z)))))),?_⟩
  refine bo F F (bM (v:=.bool (fin (ks.getD s []))) df dU F F F (fun z12=>⟨by exact Sub.d (.d (.d (.k (.d (.d (.d (.k .z))))))),?_⟩))
  refine bo F F (bY 6 df df dU F F F F (by simp;omega) (by decide) (Src.row (j:=0) F (by simp)) (by simp[dS]) (by omega) (by decide) (by decide) (fun lK km=>⟨by exact Sub.d (.d (.d (.k (.d (.d (.d (.k .z))))))),?_⟩))
  refine bq F F (a8 (vs:=[(.slice nC (s+1) iT)]) 7 dM F F F F ?_)
  refine bq F F (dw F F (aN bW F cA F F) ?_)
  refine bq F F (a8 (vs:=[(.slice lK (s+1) km)]) 7 cA F F F F ?_)
  refine bw ?_
  have kY:bf ((cX.take (s+1)).map fin)=bf ((ks.take s).map fin)++[.bool (fin (ks.getD s []))]:=by
   rw[List.take_succ_eq_append_getElem (by omega:s<cX.length),List.map_append,show cX.take s=ks.take s by obtain⟨t9,rfl⟩:=nL;rw[List.take_append_of_le_length (by omega)],←lY,show cX.getD s []=cX[s] by rw[List.getD_eq_getElem?_getD,List.getElem?_eq_getElem (by omega),Option.getD_some]]
   simp
  refine ck (O':=[am tb tc 56 1 (cO c1 ef),cm str (fun n:Nat=>Value.int .i64 (n:Int)) m3 cX.zipIdx,am nC iT 56 1 (bO (rq++[⟨(aD z5),L,ys⟩])),am lK km 4 1 (bf ((cX.take (s+1)).map fin)),oI z4 25 [vN vs,(vI 0),(.slice nC (s+1) iT),(.slice lK (s+1) km)],oI z1 25 [(vI 0),(vI 0),nS,nS]]++(a_ 3 (rq++[⟨(aD z5),L,ys⟩])++fa ef)) (by
   rw[kY,show bO (rq++[⟨(aD z5),L,ys⟩])=(bO rq)++[(.slice (aD z5) L L)] by simp[Rec.val,wD],show a_ 3 (rq++[⟨(aD z5),L,ys⟩])=a_ 3 rq++[am (aD z5) L 3 1 (ints ys)] by simp[a_,Rec.qG]]
   exact lN [am tb tc 56 1 (cO c1 ef),cm str (fun n:Nat=>Value.int .i64 (n:Int)) m3 cX.zipIdx,am nC iT 56 1 ((bO rq)++[(.slice (aD z5) L L)]),am lK km 4 1 ((bf ((ks.take s).map fin))++[.bool (fin (ks.getD s []))]),oI z4 25 [vN vs,(vI 0),(.slice nC (s+1) iT),(.slice lK (s+1) km)],oI z1 25 [(vI 0),(vI 0),nS,nS]] [am (aD z12) 1 4 1 [.bool (fin (ks.getD s []))],am (aD z9) 1 56 1 [(.slice (aD z5) L L)],am (aD z5) L 3 1 (ints ys),am tb tc 56 1 (cO c1 ef),cm str (fun n:Nat=>Value.int .i64 (n:Int)) m3 cX.zipIdx,am nC iT 56 1 ((bO rq)++[(.slice (aD z5) L L)]),am lK km 4 1 ((bf ((ks.take s).map fin))++[.bool (fin (ks.getD s []))]),oI z4 25 [vN vs,(vI 0),(.slice nC (s+1) iT),(.slice lK (s+1) km)],oI z1 25 [(vI 0),(vI 0),nS,nS]] (a_ 3 rq) (fa ef) (am (aD z5) L 3 1 (ints ys)) (by exact Sub.d (.d (.dr [am (aD z5) L 3 1 (ints ys)] _ (.dr [am (aD z5) L 3 1 (ints ys)] _ (.dr [am (aD z5) L 3 1 (ints ys)] _ (.dr [am (aD z5) L 3 1 (ints ys)] _ (.dr [am (aD z5) L 3 1 (ints ys)] _ (.dr [am (aD z5) L 3 1 (ints ys)] _ (.k .z)))))))))) ?_
  refine aJ (ah F (ad (cx (a:=s) (b:=1) F F (by omega)) (aj F (ae ?_))))
  have AH:x=L:=by omega
  have LB:ys=iu tr L cX s:=by
   apply List.ext_getElem?
   intro i
   by_cases hi:i<L
   ·rw[tW i (by omega)];simp only[iu,lY];simp[hi]
   ·rw[List.getElem?_eq_none (by omega),List.getElem?_eq_none (by simp[iu];omega)]
  have wE: ∀y,y<L→tr (ks.getD s []) y∈cX:=fun y hy=>by rw[lC,dc];exact .inr (List.mem_map_of_mem (List.mem_range.2 (by omega)))
  have K5:ni tr L cX (s+1) (nums (rq++[⟨(aD z5),L,ys⟩])):=by
   have:=hE.snoc nL Kg LB (by rw[lY];exact wE)
   simpa[nums]using this
  exact⟨s+1,by omega,_,bn (List.Sublist.refl _),cX,ef,rq++[⟨(aD z5),L,ys⟩],tb,nC,lK,tc,iT,km,F,by rw[tV,lV,lC,AH],BS,rR,AE,K5,(.of F)⟩
 have nB: ¬s<qs.length:=by omega
 refine bJ ?_
 refine aB ?_
 have H2:s=ks.length:=by omega
 have pm:rq.length=(nums rq).length:=by simp
 obtain⟨W,hW⟩: ∃W,W=FF vs (nums rq) (ks.map fin):=⟨_,F⟩
 have yz:HasL (vs:Int) ks.length W (fun u=>fin (u.foldl tr start)):=by rw[hW];exact yA eT (by rw[hL];exact hF) (by rw[hL,←H2];exact hE) (by omega)
 have e1:nums rq=W.next:=by rw[hW];rfl
 have e2:(ks.take s).map fin=W.ax:=by rw[hW,List.take_of_length_le (by omega)];rfl
 have e3:(vs:Int)=W.vars:=by rw[hW];rfl
 have e4:(0:Int)=W.start:=by rw[hW];rfl
 have e5:s=W.next.length:=by rw[←e1,←pm];omega
 have e6:s=W.ax.length:=by rw[yz.valid.fin,←e5]
 obtain⟨M,hM⟩: ∃m,gJ W=m:=⟨_,F⟩
 have DZ:eF (vs:Int) ks.length M (fun u=>fin (u.foldl tr start)):=hM▸yz.qL
 obtain⟨z9,Pp⟩: ∃z:DK,z=⟨ob,oc,fb,fc,rq⟩:=⟨_,F⟩
 refine ck (O':=([am ob oc 56 1 (bO rq),am fb fc 4 1 (bf ((ks.take s).map fin)),oI z4 25 [vN vs,(vI 0),(.slice ob s oc),(.slice fb s fc)],oI z1 25 [(vI 0),(vI 0),nS,nS]]++a_ 3 rq)) (oK _ _ _ _ (by exact Sub.d (.d (.k (.k (.k (.k .z))))))) ?_
 refine ck (O':=(([am ob oc 56 1 (bO rq),am fb fc 4 1 (bf W.ax)]++a_ 3 rq)++[oI z4 25 [(vI W.vars),(vI W.start),(.slice ob W.next.length oc),(.slice fb W.ax.length fc)],oI z1 25 [(vI 0),(vI 0),nS,nS]])) (by rw[←e5,←e6,←e2,←e3,←e4];exact eW [am ob oc 56 1 (bO rq),am fb fc 4 1 (bf ((ks.take s).map fin))] (a_ 3 rq) [oI z4 25 [vN vs,(vI 0),(.slice ob s oc),(.slice fb s fc)],oI z1 25 [(vI 0),(vI 0),nS,nS]]) ?_
 refine ol (φ:=nums rq=W.next) e1 ?_
 refine ck (O':=[dI 56 4 3 W z9,oI z4 25 (dC W z9),oI z1 25 [(vI 0),(vI 0),nS,nS]]) (by subst Pp;exact Sub.rf) ?_
 refine aJ (ah F (ad (dh 1 bW F aY F F F) (ak F (aP xo (aI fun w1 hI=>(haveI:=di hI;xp w1 W z9 (hI.at (k:=z9) (mG 0 F)) yz.valid (by have:=yz.valid.n4;omega) (M:=M) hM)) F ?_))))
 rintro vr O' ⟨N,rfl,k9,rfl,rfl⟩
 refine ad (aV (vs:=_) F F) (ad (aV (vs:=_) F F) ?_)
 have tg:=fun(w1:World) (hI:Inv w [dI 56 4 3 M k9,dI 56 4 3 W z9,oI z4 25 (dC W z9),oI z1 25 [(vI 0),(vI 0),nS,nS]] w1)=>(haveI:=di hI;kj w1 cb eb en ec vs B (hI.sl dz) M k9 0)
 refine de F (dA oL (cB.pure tg) F (fun z _=>⟨F,fun _=>z ⟨F,by have:=DZ.len;omega⟩⟩) ?_)
 clear tg
 rintro vr O' ⟨N,rfl,rfl,rfl,_,vl⟩
 refine ak F (a8 (vs:=(dC M k9)) 3 aY F F F F ?_)
 refine ae (aA (ap ?_))
 refine bL (i:=3) Tryz.results141 bW F aY F F F ?_
 exact⟨[dI 56 4 3 M k9],(by exact Sub.k .z),M,k9,F,F,⟨DZ.toHasL.le vl,DZ.min⟩,vm hF (H2▸hE) Gq⟩
end Go.Proofs.YtgdbfideeeegmaaGreatDoor

namespace Go.Proofs.YtgdbfideeeegmaaGreatDoor
open Go.Lx Go.RowKit _root_.Go.Proofs.Tryz
theorem AD (w:World) [cG Tryz.prog w] (cb:Nat) (eb:Option Addr) (en ec vs B L:Nat) (dz:Sl w (aD cb) [.slice eb en ec,vI (vs:Int),vI (B:Int)]) (eT:vs≤6) (hL:2^vs=L) (gn:1≤B) (hB:B≤4096)
  (tr:Key→Nat→Key) (fin:Key→Bool) (start:Key) (Rp:Key→SR→Prop) (r0:SR) (fk fn ff:Value) (BQ:Rp start r0) (Np:r0.ik=[]) (qT: ∀k r,Rp k r→dS r.a=true∧dS r.b=true)
  (vh: ∀w1 k r,Inv w [] w1→Rp k r→(∀it∈r.ik,it.P w1)→dn Tryz.prog w1 fk [(.agg #[r.a,r.b])] [] (fun v O'=>v=str k∧O'=[]))
  (dT: ∀w1 k r x,Inv w [] w1→Rp k r→(∀it∈r.ik,it.P w1)→x<L→dn Tryz.prog w1 fn [(.agg #[r.a,r.b]),.int .u8 (x:Int)] [] (fun v N=> ∃r',v=(.agg #[r'.a,r'.b])∧N=r'.ik∧Rp (tr k x) r'))
  (wC: ∀w1 k r,Inv w [] w1→Rp k r→(∀it∈r.ik,it.P w1)→dn Tryz.prog w1 ff [(.agg #[r.a,r.b])] [] (fun v O'=>v=.bool (fin k)∧O'=[])):
  cB Tryz.prog w (.iface 163 (.agg #[])) 154 [(cW (aD cb) 0),(.agg #[r0.a,r0.b]),fk,fn,ff] [] (fun v N=> ∃M k',v=dV M k'∧N=[dI 56 4 3 M k']∧eF (vs:Int) B M (fun u=>fin (u.foldl tr start))∧vi tr L start B) (¬vi tr L start B):=by
 refine cJ func154 F ntmps154 F ?_
 have LA:L≤64:=by rw[←hL];exact Nat.pow_le_pow_right (by decide) eT
 obtain⟨Vr,Fo⟩:=qT _ _ BQ
 refine ai (ak F (cH (cs:=[r0.a,r0.b]) F F (fun z1=>?_)))
 refine ak F (aR aY F (fun z2=>?_))
 refine ae (ai (ad (dh 1 jd F fu F F F) (ak F (bH (m:=1) (parts:=[(0,_)]) (cs:=[r0.a,r0.b]) td fu (by decide) (by kernel_rfl) F (fun z3=>?_)))))
 refine aj F (ae (ai (ak F (i_ str (fun n:Nat=>Value.int .i64 (n:Int)) (fun m4=>?_)))))
 refine ah F (ad (dh 3 jd F fu F F F) ?_)
 have mw:=(cD (O:=[cm str (fun n:Nat=>Value.int .i64 (n:Int)) m4 [],am (aD z3) 1 208 2 [r0.a,r0.b],oI z2 25 [(vI 0),(vI 0),nS,nS],oI z1 208 [r0.a,r0.b]]) fun w1 hI=>haveI:=di hI;vh w1 start r0 hI.kw BQ (by rw[Np];simp))
 refine ak F (dx mw F F ?_)
 clear mw
 rintro vr O' ⟨N,rfl,rfl,rfl⟩
 refine ak F (ep (a:=start) (v:=(0:Nat)) 0 fL (eN.string ra) F F F F (by simp) ?_)
 refine ah F (aj F (ae (ai (ah F (ad (aK F) (ad (br iR F aO F F (ay dz) (by first|omega|(simp;done)|(simp;omega)|(simp_all;done)|(simp_all;omega))) (ad (cd cS F F (ay dz) F) (ad (bG (cs:=[vN vs,(vI 0),nS,nS]) gD aY (by kernel_rfl)) (ak F (aR aY F (fun z5=>?_)))))))))))
 refine ak F (a8 (vs:=[vN vs,(vI 0),nS,nS]) 0 aY F F F F ?_)
 refine ae (aB (ai (aj F (ae (aG (T.dJ 4 1 ?_))))))
 refine T.dJ 56 1 ?_
 refine ck (O':=[am (aD z3) 1 208 2 (cO c2 [r0]),cm str (fun n:Nat=>Value.int .i64 (n:Int)) m4 [start].zipIdx,am none 0 56 1 (bO []),am none 0 4 1 (bf []),oI z5 25 [vN vs,(vI 0),nS,nS],oI z2 25 [(vI 0),(vI 0),nS,nS],oI z1 208 [r0.a,r0.b]]++(a_ 3 []++fa [r0])) (by rw[show fa [r0]=[] by simp[fa,Np]];exact(ar [4,3,0,0,0,0,0] F)) ?_
 refine cM (fun(s:Nat) ρ O=> ∃(ks:List Key) (qs:List SR) (rq:List Rec) (sb ob fb:Option Addr) (sc oc fc:Nat),O=([am sb sc 208 2 (cO c2 qs),cm str (fun n:Nat=>Value.int .i64 (n:Int)) m4 ks.zipIdx,am ob oc 56 1 (bO rq),am fb fc 4 1 (bf ((ks.take s).map fin)),oI z5 25 [vN vs,(vI 0),(.slice ob s oc),(.slice fb s fc)],oI z2 25 [(vI 0),(vI 0),nS,nS],oI z1 208 [r0.a,r0.b]]++(a_ 3 rq++fa qs))∧tV tr L start s=ks∧xu tr L start ks∧DW Rp ks qs∧ks.length≤B∧ni tr L ks s (nums rq)∧cw [(0,(cW (aD cb) 0)),(1,(.agg #[r0.a,r0.b])),(2,fk),(3,fn),(4,ff),(6,(.pointer (aD z1))),(10,(.pointer (aD z2))),(11,(.slice sb qs.length sc)),(12,(.map (some m4))),(13,(.pointer (aD z5))),(14,vN s)] ρ) (fun s=>B-s) 0 ?_ ?_
 ·exact⟨[start],[r0],[],(aD z3),none,none,1,0,0,F,F,xu.one _ _ _,DW.one BQ,by simpa using gn,⟨F,Nat.zero_le _,fun i hi=>absurd hi (by omega),fun i hi=>absurd hi (by omega)⟩,(.of F)⟩
 rintro s ρ O ⟨ks,qs,rq,sb,ob,fb,sc,oc,fc,rfl,lV,hF,hR,Gq,hE,hH⟩
 obtain⟨fE,rfl⟩:=hH.elim
 clear hH
 have DG:=hR.1
 have E8:rq.length=s:=by have:=hE.len;simpa using this
 have Hd:=hE.le
 refine aB (ai (ah F (ah F (ad (bS td F) (ad (bT F F) (ae (aC F (fun hc=>?_) (fun hc=>?_))))))))
 ·have nA:s<qs.length:=by omega
  have Kg:s<ks.length:=by omega
  refine av (aB (aG (ai (ah F (ad (aK F) (ad (br iR F aO F F (ay dz) (by first|omega|(simp;done)|(simp;omega)|(simp_all;done)|(simp_all;omega))) (ad (cd cS F F (ay dz) F) (ad (a7 (kV (v:=vs) F F (by omega)) (v':=vN L) (by rw[hL])) (ak F (bX (m:=L) bK aO F F (by omega) (by omega) (fun z6=>?_)))))))))))
  refine aj F (ae (aB (ai (ah F (ad (bS bK F) (ah F (ae (aG ?_))))))))
  refine cM (fun(x:Nat) ρ O=> ∃(cX:List Key) (ef:List SR) (ys:List Int) (tb:Option Addr) (tc:Nat),O=([am (aD z6) L 3 1 (ints ys),am tb tc 208 2 (cO c2 ef),cm str (fun n:Nat=>Value.int .i64 (n:Int)) m4 cX.zipIdx,am ob oc 56 1 (bO rq),am fb fc 4 1 (bf ((ks.take s).map fin)),oI z5 25 [vN vs,(vI 0),(.slice ob s oc),(.slice fb s fc)],oI z2 25 [(vI 0),(vI 0),nS,nS],oI z1 208 [r0.a,r0.b]]++(a_ 3 rq++fa ef))∧x≤L∧ys.length=L∧xu tr L start cX∧DW Rp cX ef∧cX.length≤B∧cX=((List.range x).map (tr (ks.getD s []))).foldl add ks∧(∀i,i<x→ys[i]? =some ((ix (tr (ks.getD s []) i) cX:Nat):Int))∧cw [(0,(cW (aD cb) 0)),(1,(.agg #[r0.a,r0.b])),(2,fk),(3,fn),(4,ff),(6,(.pointer (aD z1))),(10,(.pointer (aD z2))),(11,(.slice tb ef.length tc)),(12,(.map (some m4))),(13,(.pointer (aD z5))),(14,vN s),(15,(.slice (aD z6) L L)),(45,vI (L:Int)),(46,vN x)] ρ) (fun x=>L-x) 0 ?_ ?_
  ·exact⟨ks,qs,List.replicate L 0,sb,sc,by simp,Nat.zero_le _,by simp,hF,hR,Gq,F,fun i hi=>absurd hi (by omega),(.of F)⟩
  rintro x ρ O ⟨cX,ef,ys,tb,tc,rfl,hx,wD,BS,rR,AE,lC,tW,hH⟩
  obtain⟨fE,rfl⟩:=hH.elim
  clear hH
  have nL:ks<+:cX:=lC▸eL _ _
  have lY:cX.getD s []=ks.getD s []:=je nL Kg
  have Pn:=nL.length_le
  have AF:=rR.1
  have pE:s<ef.length:=by omega
  have H1:=rR.2 s pE
  rw[lY]at H1
  refine ai (ad (bT F F) (ae (aB (aC F (fun hc=>?_) (fun hc=>?_)))))
  ·have lL:x<L:=by omega
   have BT:x<L:=by omega
   have DX:ks.getD s []∈cX:=by rw[←lY,List.getD_eq_getElem?_getD,List.getElem?_eq_getElem (by omega),Option.getD_some];exact List.getElem_mem _
   refine av (aB (aG (ai (ah F (aj F (ae (ai (ah F (ah F (ah F (ad (cY (i:=s) td fu F F (cP (mG 1 F)) pE (by rw[gj (f:=c2) (n:=2) (fun _=>rfl)];omega)) (ad (dy (vs:=[ef[s].a,ef[s].b]) jd F fu F F (Nat.succ_pos _) (cP (mG 1 F)) (DY pE)) (ah F (ad (et cS eu F (ny (by omega))) ?_))))))))))))))
   have AG:=(cD (O:=([am (aD z6) L 3 1 (ints ys),am tb tc 208 2 (cO c2 ef),cm str (fun n:Nat=>Value.int .i64 (n:Int)) m4 cX.zipIdx,am ob oc 56 1 (bO rq),am fb fc 4 1 (bf ((ks.take s).map fin)),oI z5 25 [vN vs,(vI 0),(.slice ob s oc),(.slice fb s fc)],oI z2 25 [(vI 0),(vI 0),nS,nS],oI z1 208 [r0.a,r0.b]]++(a_ 3 rq++fa ef))) fun w1 hI=>haveI:=di hI;dT w1 (ks.getD s []) ef[s] x hI.kw H1 (fun it dZ=>hI.holds it (List.mem_append_right _ (List.mem_append_right _ (mx pE dZ)))) BT)
   refine ak F (dx AG F F ?_)
   clear AG
   rintro vr O' ⟨N9,rfl,r9,rfl,rfl,BU⟩
   obtain⟨Nq,Ro⟩:=qT _ _ BU
   refine cQ (O':=([am (aD z6) L 3 1 (ints ys),am tb tc 208 2 (cO c2 ef),cm str (fun n:Nat=>Value.int .i64 (n:Int)) m4 cX.zipIdx,am ob oc 56 1 (bO rq),am fb fc 4 1 (bf ((ks.take s).map fin)),oI z5 25 [vN vs,(vI 0),(.slice ob s oc),(.slice fb s fc)],oI z2 25 [(vI 0),(vI 0),nS,nS],oI z1 208 [r0.a,r0.b]]++(r9.ik++(a_ 3 rq++fa ef)))) (by exact eg [] _ r9.ik (a_ 3 rq++fa ef)) ?_
   refine ak F (aR fu F (fun z7=>?_))
   refine ak F (sf (v:=(.agg #[r9.a,r9.b])) (vs:=[r9.a,r9.b]) 0 fu F F F F (by simp[Nq,Ro]) F (by simp[dK]) ?_)
   refine ae (ai (ah F (ah F (ad (dh 0 jd F fu F F F) ?_))))
   have u7:=(cD (O:=([oI z7 208 [r9.a,r9.b],am (aD z6) L 3 1 (ints ys),am tb tc 208 2 (cO c2 ef),cm str (fun n:Nat=>Value.int .i64 (n:Int)) m4 cX.zipIdx,am ob oc 56 1 (bO rq),am fb fc 4 1 (bf ((ks.take s).map fin)),oI z5 25 [vN vs,(vI 0),(.slice ob s oc),(.slice fb s fc)],oI z2 25 [(vI 0),(vI 0),nS,nS],oI z1 208 [r0.a,r0.b]]++(r9.ik++(a_ 3 rq++fa ef)))) fun w1 hI=>haveI:=di hI;vh w1 (tr (ks.getD s []) x) r9 hI.kw BU (fun it dZ=>hI.holds it (List.mem_append_right _ (List.mem_append_left _ dZ))))
   refine ak F (dx u7 F F ?_)
   clear u7
   rintro vr O' ⟨N,rfl,rfl,rfl⟩
   refine ad (a7 (gL (a:=tr (ks.getD s []) x) fL aO (eN.string ra) F F (mG 3 F)) (v':=(.tuple #[vN (if tr (ks.getD s []) x∈cX then ix (tr (ks.getD s []) x) cX else 0),.bool (decide (tr (ks.getD s []) x∈cX))])) (by rw[iE];generalize tr (ks.getD s []) x=k9;by_cases h9:k9∈cX<;>simp[h9])) (ah F (ad (aV (vs:=_) F F) (ad (aV (vs:=_) F F) (aj F (aj F (ae (aB (ai (ah F (ad (gy F) (ae (T.cond F (fun hc=>?_) (fun hc=>?_)))))))))))))
   ·have xw:tr (ks.getD s []) x∉cX:=by simpa using hc
    have iF:=yx xw
    refine ai (ah F (ad (bS td F) (aj F (ae (ai (ah F (ah F (ad (dh 0 jd F fu F F F) ?_))))))))
    have vj:=(cD (O:=([oI z7 208 [r9.a,r9.b],am (aD z6) L 3 1 (ints ys),am tb tc 208 2 (cO c2 ef),cm str (fun n:Nat=>Value.int .i64 (n:Int)) m4 cX.zipIdx,am ob oc 56 1 (bO rq),am fb fc 4 1 (bf ((ks.take s).map fin)),oI z5 25 [vN vs,(vI 0),(.slice ob s oc),(.slice fb s fc)],oI z2 25 [(vI 0),(vI 0),nS,nS],oI z1 208 [r0.a,r0.b]]++(r9.ik++(a_ 3 rq++fa ef)))) fun w1 hI=>haveI:=di hI;vh w1 (tr (ks.getD s []) x) r9 hI.kw BU (fun it dZ=>hI.holds it (List.mem_append_right _ (List.mem_append_left _ dZ))))
    refine ak F (dx vj F F ?_)
    clear vj
    rintro vr O' ⟨N,rfl,rfl,rfl⟩
    refine ah F (ak F (me (a:=tr (ks.getD s []) x) (v:=ef.length) 3 fL (eN.string ra) F F F F (by rw[jN];exact xw) ?_))
    refine ae (ai (ah F (ad (dh 0 jd F fu F F F) (ak F (bH (m:=1) (parts:=[(0,_)]) (cs:=[r9.a,r9.b]) td fu (by decide) (by kernel_rfl) F (fun z8=>?_))))))
    refine ak F (bY 3 td td fu F F F F (by rw[gj (f:=c2) (n:=2) (fun _=>rfl)]) (by decide) (Src.row (j:=0) F (by simp)) (by simp[Nq,Ro]) (by omega) (by decide) (by decide) (fun z9 kF=>?_))
    refine aj F (ae (ai (ah F (ah F (ad (aK F) (ad (br iR F aO F F (ay dz) (by first|omega|(simp;done)|(simp;omega)|(simp_all;done)|(simp_all;omega))) (ad (cd cS F F (ay dz) F) (ad (jF F F) (ae (aC F (fun hc=>?_) (fun hc=>?_)))))))))))
    ·have Nr:ef.length≥B:=by omega
     refine aJ (ad (bG rn ve F) (ad (mv AA F) ?_))
     exact de F (rp F (fun _=>⟨F,(BS.add DX BT).Po (by rw[iF];simp;omega)⟩))
    have Ns: ¬ef.length≥B:=by omega
    refine av (aJ (ah F (ah F (ah F (ad (cV (i:=x) bK aO F F (cP (mG 2 F)) (by omega) (by rw[List.length_map];omega)) (ak F (lB (j:=x) (v:=vI (ef.length:Int)) (vs:=[(vI (ef.length:Int))]) (cs:=ints ys) 2 aO F F F F F (by simp) F (by first|(simp;omega)|(simp_all;omega)) ?_)))))))
    refine cQ (O':=([am (aD z8) 1 208 2 [r9.a,r9.b],oI z7 208 [r9.a,r9.b],am (aD z6) L 3 1 (ints (ys.set x ((ix (tr (ks.getD s []) x) (add cX (tr (ks.getD s []) x)):Nat):Int))),am z9 kF 208 2 ((cO c2 ef)++[r9.a,r9.b]),cm str (fun n:Nat=>Value.int .i64 (n:Int)) m4 (cX.zipIdx++[(tr (ks.getD s []) x,ef.length)]),am ob oc 56 1 (bO rq),am fb fc 4 1 (bf ((ks.take s).map fin)),oI z5 25 [vN vs,(vI 0),(.slice ob s oc),(.slice fb s fc)],oI z2 25 [(vI 0),(vI 0),nS,nS],oI z1 208 [r0.a,r0.b]]++(r9.ik++(a_ 3 rq++fa ef)))) (by rw[show dK (ints ys) x [(vI (ef.length:Int))]=ints (ys.set x ((ix (tr (ks.getD s []) x) (add cX (tr (ks.getD s []) x)):Nat):Int))from(by rw[iF,ei xw,show ix (tr (ks.getD s []) x) [tr (ks.getD s []) x]=0 by simp[ix],Nat.add_zero,←AF];simp[dK])];exact bn (List.Sublist.refl _)) ?_
    refine ae (aJ (ad (cx (a:=x) (b:=1) F F (by omega)) (ah F (ae ?_))))
    have wE: ∀y,y<x→tr (ks.getD s []) y∈cX:=fun y hy=>by rw[lC,dc];exact .inr (List.mem_map_of_mem (List.mem_range.2 hy))
    have vk: ∀i,i<x+1→(ys.set x ((ix (tr (ks.getD s []) x) (add cX (tr (ks.getD s []) x)):Nat):Int))[i]? =some ((ix (tr (ks.getD s []) i) (add cX (tr (ks.getD s []) x)):Nat):Int):=fun i hi=>by
     by_cases e:i=x
     ·subst e;rw[List.getElem?_set_self (by omega)]
     ·rw[List.getElem?_set_ne (fun h=>e h.symm),tW i (by omega),e_ (gk _ _) (wE i (by omega))]
    have s9:=rR.snoc BU
    rw[←iF]at s9
    have Tf:=BS.add DX BT
    exact⟨x+1,by omega,[am (aD z6) L 3 1 (ints (ys.set x ((ix (tr (ks.getD s []) x) (add cX (tr (ks.getD s []) x)):Nat):Int))),am z9 kF 208 2 (cO c2 (ef++[r9])),cm str (fun n:Nat=>Value.int .i64 (n:Int)) m4 ((add cX (tr (ks.getD s []) x)).zipIdx),am ob oc 56 1 (bO rq),am fb fc 4 1 (bf ((ks.take s).map fin)),oI z5 25 [vN vs,(vI 0),(.slice ob s oc),(.slice fb s fc)],oI z2 25 [(vI 0),(vI 0),nS,nS],oI z1 208 [r0.a,r0.b]]++(a_ 3 rq++fa (ef++[r9])),(by rw[su,oH,iF,show(cX++[tr (ks.getD s []) x]).zipIdx=cX.zipIdx++[(tr (ks.getD s []) x,ef.length)] by rw[List.zipIdx_append,AF];simp];exact qn _ _ _ _ _ (by exact Sub.d (.d (.k (.k (.k (.k (.k (.k (.k (.k .z))))))))))),add cX (tr (ks.getD s []) x),ef++[r9],_,z9,kF,F,by omega,by simp[wD],Tf,s9,by rw[iF];simp;omega,by rw[fw,←lC],vk,⟨F,F,F,F,F,F,F,(show Value.slice z9 (ef.length+1) kF=_ by rw[List.length_append];rfl),F,F,F,F,F,F,trivial⟩⟩
   have xw:tr (ks.getD s []) x∈cX:=by simpa using hc
   have iF:=yy xw
   refine av (aJ (ah F (ah F (ah F (ad (cV (i:=x) bK aO F F (cP (mG 1 F)) (by omega) (by rw[List.length_map];omega)) (ak F (lB (j:=x) (v:=vN (if tr (ks.getD s []) x∈cX then ix (tr (ks.getD s []) x) cX else 0)) (vs:=[(vN (if tr (ks.getD s []) x∈cX then ix (tr (ks.getD s []) x) cX else 0))]) (cs:=ints ys) 1 aO F F F F F (by simp) F (by first|(simp;omega)|(simp_all;omega)) ?_)))))))
   refine cQ (O':=([oI z7 208 [r9.a,r9.b],am (aD z6) L 3 1 (ints (ys.set x ((ix (tr (ks.getD s []) x) (add cX (tr (ks.getD s []) x)):Nat):Int))),am tb tc 208 2 (cO c2 ef),cm str (fun n:Nat=>Value.int .i64 (n:Int)) m4 cX.zipIdx,am ob oc 56 1 (bO rq),am fb fc 4 1 (bf ((ks.take s).map fin)),oI z5 25 [vN vs,(vI 0),(.slice ob s oc),(.slice fb s fc)],oI z2 25 [(vI 0),(vI 0),nS,nS],oI z1 208 [r0.a,r0.b]]++(r9.ik++(a_ 3 rq++fa ef)))) (by rw[show dK (ints ys) x [(vN (if tr (ks.getD s []) x∈cX then ix (tr (ks.getD s []) x) cX else 0))]=ints (ys.set x ((ix (tr (ks.getD s []) x) (add cX (tr (ks.getD s []) x)):Nat):Int))from(by rw[iF,if_pos xw];simp[dK])];exact bn (List.Sublist.refl _)) ?_
   refine ae (aJ (ad (cx (a:=x) (b:=1) F F (by omega)) (ah F (ae ?_))))
   have wE: ∀y,y<x→tr (ks.getD s []) y∈cX:=fun y hy=>by rw[lC,dc];exact .inr (List.mem_map_of_mem (List.mem_range.2 hy))
   have vk: ∀i,i<x+1→(ys.set x ((ix (tr (ks.getD s []) x) (add cX (tr (ks.getD s []) x)):Nat):Int))[i]? =some ((ix (tr (ks.getD s []) i) (add cX (tr (ks.getD s []) x)):Nat):Int):=fun i hi=>by
    by_cases e:i=x
    ·subst e;rw[List.getElem?_set_self (by omega)]
    ·rw[List.getElem?_set_ne (fun h=>e h.symm),tW i (by omega),e_ (gk _ _) (wE i (by omega))]
   have s9:=rR
   rw[←iF]at s9
   exact⟨x+1,by omega,[am (aD z6) L 3 1 (ints (ys.set x ((ix (tr (ks.getD s []) x) (add cX (tr (ks.getD s []) x)):Nat):Int))),am tb tc 208 2 (cO c2 ef),cm str (fun n:Nat=>Value.int .i64 (n:Int)) m4 ((add cX (tr (ks.getD s []) x)).zipIdx),am ob oc 56 1 (bO rq),am fb fc 4 1 (bf ((ks.take s).map fin)),oI z5 25 [vN vs,(vI 0),(.slice ob s oc),(.slice fb s fc)],oI z2 25 [(vI 0),(vI 0),nS,nS],oI z1 208 [r0.a,r0.b]]++(a_ 3 rq++fa ef),(by rw[iF];exact dO _ _ _ _ (by exact Sub.d (.k (.k (.k (.k (.k (.k (.k (.k .z)))))))))),add cX (tr (ks.getD s []) x),ef,_,tb,tc,F,by omega,by simp[wD],BS.add DX BT,s9,by rw[iF];exact AE,by rw[fw,←lC],vk,(.of F)⟩
  have lM: ¬x<L:=by omega
  refine bJ ?_
  refine T.ds [am tb tc 208 2 (cO c2 ef),oI z5 25 [vN vs,(vI 0),(.slice ob s oc),(.slice fb s fc)]] [(0,0),(1,0),(2,0),(5,0),(6,0),(7,0),(8,0),(9,0),(10,0),(11,0),(3,1),(4,1),(15,0),(12,1),(13,1),(14,1),(16,2),(17,2),(18,2)] (by exact Sub.d (.k (.d (.d (.d (.k .z)))))) ?_
  refine ao F (aN bW F dM F F) (ao F (aQ 1 du F F F F) (ao F (az F) (ao F (aN bW F cA F F) (ao F (aQ 1 df F F F F) (ao F (az F) (ao F (az F) (ao F (az F) (ao F (cY (i:=s) td fu F F (cP (mG 0 F)) pE (by rw[gj (f:=c2) (n:=2) (fun _=>rfl)];omega)) (ao F (dy (vs:=[ef[s].a,ef[s].b]) jd F fu F F (Nat.succ_pos _) (cP (mG 0 F)) (DY pE)) ?_)))))))))
  refine bo F F (bM (v:=(.slice (aD z6) L L)) du bV F F F (fun tR=>⟨by exact Sub.d (.d (.k (.d (.d (.d (.k .z)))))),?_⟩))
  refine bo F F (bY 4 du du bV F F F F (by simp;omega) (by decide) (Src.row (j:=0) F (by simp)) (by simp[dS]) (by omega) (by decide) (by decide) (fun z12 nj=>⟨by exact Sub.d (.d (.k (.d (.d (.d (.k .z)))))),?_⟩))
  refine ao F (aN bW F dM F F) ?_
  have tf:=(cD (O:=([am (aD tR) 1 56 1 [(.slice (aD z6) L L)],am (aD z6) L 3 1 (ints ys),am tb tc 208 2 (cO c2 ef),cm str (fun n:Nat=>Value.int .i64 (n:Int)) m4 cX.zipIdx,am z12 nj 56 1 ((bO rq)++[(.slice (aD z6) L L)]),am fb fc 4 1 (bf ((ks.take s).map fin)),oI z5 25 [vN vs,(vI 0),(.slice ob s oc),(.slice fb s fc)],oI z2 25 [(vI 0),(vI 0),nS,nS],oI z1 208 [r0.a,r0.b]]++(a_ 3 rq++fa ef))) fun w1 hI=>haveI:=di hI;wC w1 (ks.getD s []) ef[s] hI.kw H1 (fun it dZ=>hI.holds it (List.mem_append_right _ (List.mem_append_right _ (mx pE dZ)))))
  refine bo F F (dx tf F F ?_)
  clear tf
  rintro vr O' ⟨N,rfl,rfl,rfl⟩
  refine⟨by exact Sub.d (.d (.k (.d (.d (.d (.k .z)))))),?_⟩
  refine bo F F (bM (v:=.bool (fin (ks.getD s []))) df dU F F F (fun xk=>⟨by exact Sub.d (.d (.d (.k (.d (.d (.d (.k .z))))))),?_⟩))
  refine bo F F (bY 6 df df dU F F F F (by simp;omega) (by decide) (Src.row (j:=0) F (by simp)) (by simp[dS]) (by omega) (by decide) (by decide) (fun u_ oJ=>⟨by exact Sub.d (.d (.d (.k (.d (.d (.d (.k .z))))))),?_⟩))
  refine bq F F (a8 (vs:=[(.slice z12 (s+1) nj)]) 7 dM F F F F ?_)
  refine bq F F (dw F F (aN bW F cA F F) ?_)
  refine bq F F (a8 (vs:=[(.slice u_ (s+1) oJ)]) 7 cA F F F F ?_)
  refine bw ?_
  have kY:bf ((cX.take (s+1)).map fin)=bf ((ks.take s).map fin)++[.bool (fin (ks.getD s []))]:=by
   rw[List.take_succ_eq_append_getElem (by omega:s<cX.length),List.map_append,show cX.take s=ks.take s by obtain⟨t9,rfl⟩:=nL;rw[List.take_append_of_le_length (by omega)],←lY,show cX.getD s []=cX[s] by rw[List.getD_eq_getElem?_getD,List.getElem?_eq_getElem (by omega),Option.getD_some]]
   simp
  refine ck (O':=[am tb tc 208 2 (cO c2 ef),cm str (fun n:Nat=>Value.int .i64 (n:Int)) m4 cX.zipIdx,am z12 nj 56 1 (bO (rq++[⟨(aD z6),L,ys⟩])),am u_ oJ 4 1 (bf ((cX.take (s+1)).map fin)),oI z5 25 [vN vs,(vI 0),(.slice z12 (s+1) nj),(.slice u_ (s+1) oJ)],oI z2 25 [(vI 0),(vI 0),nS,nS],oI z1 208 [r0.a,r0.b]]++(a_ 3 (rq++[⟨(aD z6),L,ys⟩])++fa ef)) (by
   rw[kY,show bO (rq++[⟨(aD z6),L,ys⟩])=(bO rq)++[(.slice (aD z6) L L)] by simp[Rec.val,wD],show a_ 3 (rq++[⟨(aD z6),L,ys⟩])=a_ 3 rq++[am (aD z6) L 3 1 (ints ys)] by simp[a_,Rec.qG]]
   exact lN [am tb tc 208 2 (cO c2 ef),cm str (fun n:Nat=>Value.int .i64 (n:Int)) m4 cX.zipIdx,am z12 nj 56 1 ((bO rq)++[(.slice (aD z6) L L)]),am u_ oJ 4 1 ((bf ((ks.take s).map fin))++[.bool (fin (ks.getD s []))]),oI z5 25 [vN vs,(vI 0),(.slice z12 (s+1) nj),(.slice u_ (s+1) oJ)],oI z2 25 [(vI 0),(vI 0),nS,nS],oI z1 208 [r0.a,r0.b]] [am (aD xk) 1 4 1 [.bool (fin (ks.getD s []))],am (aD tR) 1 56 1 [(.slice (aD z6) L L)],am (aD z6) L 3 1 (ints ys),am tb tc 208 2 (cO c2 ef),cm str (fun n:Nat=>Value.int .i64 (n:Int)) m4 cX.zipIdx,am z12 nj 56 1 ((bO rq)++[(.slice (aD z6) L L)]),am u_ oJ 4 1 ((bf ((ks.take s).map fin))++[.bool (fin (ks.getD s []))]),oI z5 25 [vN vs,(vI 0),(.slice z12 (s+1) nj),(.slice u_ (s+1) oJ)],oI z2 25 [(vI 0),(vI 0),nS,nS],oI z1 208 [r0.a,r0.b]] (a_ 3 rq) (fa ef) (am (aD z6) L 3 1 (ints ys)) (by exact Sub.d (.d (.dr [am (aD z6) L 3 1 (ints ys)] _ (.dr [am (aD z6) L 3 1 (ints ys)] _ (.dr [am (aD z6) L 3 1 (ints ys)] _ (.dr [am (aD z6) L 3 1 (ints ys)] _ (.dr [am (aD z6) L 3 1 (ints ys)] _ (.dr [am (aD z6) L 3 1 (ints ys)] _ (.dr [am (aD z6) L 3 1 (ints ys)] _ (.k .z))))))))))) ?_
  refine aJ (ah F (ad (cx (a:=s) (b:=1) F F (by omega)) (aj F (ae ?_))))
  have AH:x=L:=by omega
  have LB:ys=iu tr L cX s:=by
   apply List.ext_getElem?
   intro i
   by_cases hi:i<L
   ·rw[tW i (by omega)];simp only[iu,lY];simp[hi]
   ·rw[List.getElem?_eq_none (by omega),List.getElem?_eq_none (by simp[iu];omega)]
  have wE: ∀y,y<L→tr (ks.getD s []) y∈cX:=fun y hy=>by rw[lC,dc];exact .inr (List.mem_map_of_mem (List.mem_range.2 (by omega)))
  have K5:ni tr L cX (s+1) (nums (rq++[⟨(aD z6),L,ys⟩])):=by
   have:=hE.snoc nL Kg LB (by rw[lY];exact wE)
   simpa[nums]using this
  exact⟨s+1,by omega,_,bn (List.Sublist.refl _),cX,ef,rq++[⟨(aD z6),L,ys⟩],tb,z12,u_,tc,nj,oJ,F,by rw[tV,lV,lC,AH],BS,rR,AE,K5,(.of F)⟩
 have nB: ¬s<qs.length:=by omega
 refine bJ ?_
 refine aB ?_
 have H2:s=ks.length:=by omega
 have pm:rq.length=(nums rq).length:=by simp
 obtain⟨W,hW⟩: ∃W,W=FF vs (nums rq) (ks.map fin):=⟨_,F⟩
 have yz:HasL (vs:Int) ks.length W (fun u=>fin (u.foldl tr start)):=by rw[hW];exact yA eT (by rw[hL];exact hF) (by rw[hL,←H2];exact hE) (by omega)
 have e1:nums rq=W.next:=by rw[hW];rfl
 have e2:(ks.take s).map fin=W.ax:=by rw[hW,List.take_of_length_le (by omega)];rfl
 have e3:(vs:Int)=W.vars:=by rw[hW];rfl
 have e4:(0:Int)=W.start:=by rw[hW];rfl
 have e5:s=W.next.length:=by rw[←e1,←pm];omega
 have e6:s=W.ax.length:=by rw[yz.valid.fin,←e5]
 obtain⟨M,hM⟩: ∃m,gJ W=m:=⟨_,F⟩
 have DZ:eF (vs:Int) ks.length M (fun u=>fin (u.foldl tr start)):=hM▸yz.qL
 obtain⟨z9,Pp⟩: ∃z:DK,z=⟨ob,oc,fb,fc,rq⟩:=⟨_,F⟩
 refine ck (O':=([am ob oc 56 1 (bO rq),am fb fc 4 1 (bf ((ks.take s).map fin)),oI z5 25 [vN vs,(vI 0),(.slice ob s oc),(.slice fb s fc)],oI z2 25 [(vI 0),(vI 0),nS,nS],oI z1 208 [r0.a,r0.b]]++a_ 3 rq)) (oK _ _ _ _ (by exact Sub.d (.d (.k (.k (.k (.k (.k .z)))))))) ?_
 refine ck (O':=(([am ob oc 56 1 (bO rq),am fb fc 4 1 (bf W.ax)]++a_ 3 rq)++[oI z5 25 [(vI W.vars),(vI W.start),(.slice ob W.next.length oc),(.slice fb W.ax.length fc)],oI z2 25 [(vI 0),(vI 0),nS,nS],oI z1 208 [r0.a,r0.b]])) (by rw[←e5,←e6,←e2,←e3,←e4];exact eW [am ob oc 56 1 (bO rq),am fb fc 4 1 (bf ((ks.take s).map fin))] (a_ 3 rq) [oI z5 25 [vN vs,(vI 0),(.slice ob s oc),(.slice fb s fc)],oI z2 25 [(vI 0),(vI 0),nS,nS],oI z1 208 [r0.a,r0.b]]) ?_
 refine ol (φ:=nums rq=W.next) e1 ?_
 refine ck (O':=[dI 56 4 3 W z9,oI z5 25 (dC W z9),oI z2 25 [(vI 0),(vI 0),nS,nS],oI z1 208 [r0.a,r0.b]]) (by subst Pp;exact Sub.rf) ?_
 refine aJ (ah F (ad (dh 1 bW F aY F F F) (ak F (aP xo (aI fun w1 hI=>(haveI:=di hI;xp w1 W z9 (hI.at (k:=z9) (mG 0 F)) yz.valid (by have:=yz.valid.n4;omega) (M:=M) hM)) F ?_))))
 rintro vr O' ⟨N,rfl,k9,rfl,rfl⟩
 refine ad (aV (vs:=_) F F) (ad (aV (vs:=_) F F) ?_)
 have tg:=fun(w1:World) (hI:Inv w [dI 56 4 3 M k9,dI 56 4 3 W z9,oI z5 25 (dC W z9),oI z2 25 [(vI 0),(vI 0),nS,nS],oI z1 208 [r0.a,r0.b]] w1)=>(haveI:=di hI;kj w1 cb eb en ec vs B (hI.sl dz) M k9 0)
 refine de F (dA oL (cB.pure tg) F (fun z _=>⟨F,fun _=>z ⟨F,by have:=DZ.len;omega⟩⟩) ?_)
 clear tg
 rintro vr O' ⟨N,rfl,rfl,rfl,_,vl⟩
 refine ak F (a8 (vs:=(dC M k9)) 3 aY F F F F ?_)
 refine ae (aA (ap ?_))
 refine bL (i:=3) Tryz.results154 bW F aY F F F ?_
 exact⟨[dI 56 4 3 M k9],(by exact Sub.k .z),M,k9,F,F,⟨DZ.toHasL.le vl,DZ.min⟩,vm hF (H2▸hE) Gq⟩
end Go.Proofs.YtgdbfideeeegmaaGreatDoor

namespace Go.Proofs.YtgdbfideeeegmaaGreatDoor
open Go.Lx Go.RowKit _root_.Go.Proofs.Tryz
theorem D0 (w:World) [cG Tryz.prog w] (lb:Option Addr) (lc:Nat) (l:List Int) (hL:Sl w lb (ints l)) (hn: ∀n∈l,kI n) (hm:13*l.length≤800000):
  bI Tryz.prog 112 [nS,.slice lb l.length lc] w fun v N=> ∃b' c',v=.slice b' (gi l).length c'∧N=[am b' c' 5 1 (bZ (gi l))]:=by
 refine bm.dJ 5 1 ?_
 have h:=Nk w none lb 0 0 lc [] l F hL hn (by omega)
 rw[Nat.zero_add,List.nil_append]at h
 exact h
theorem H3 (base:World) [cG Tryz.prog base] (a:bU) (ka:DK) (ha:At base a ka) (va:Valid a) (za:Nat) (rr:Sl base (aD za) (dC a ka)) (b:bU) (kb:DK) (hb:At base b kb) (vb:Valid b) (zb:Nat) (D3:Sl base (aD zb) (dC b kb)) (s:Nat) (hs:s<a.next.length) (sb:Option Addr) (c cv:Nat) (l:List Nat) (Hj:l.Pairwise (· < ·)) (FG: ∀t∈l,t<b.next.length):
  bm Tryz.prog base 153 [.agg #[vI ((s:Nat):Int),.slice sb l.length cv],(cW (aD za) 0),(cW (aD zb) 0)] [am sb c 3 1 (aX l)] (fun v O'=> ∃b' c' c2,v=.agg #[vI ((s:Nat):Int),.slice b' (tk a b s l).length c']∧O'=[am b' c2 3 1 (aX (tk a b s l))]):=by
 refine aw func153 F ntmps153 F ?_
 refine ai (ak F (cH (cs:=[vI ((s:Nat):Int),(.slice sb l.length cv)]) F F (fun z1=>?_)))
 refine ak F (aR fu F (fun z2=>?_))
 refine ae (aB (ai (ad (br bW F cA F F (ay rr) (by show _<4;decide)) (ad (cd df F F (ay rr) F) (ad (aN jd F aO F F) (ad (aQ 1 cS F F F F) (ad (cV (i:=s) df dU F F (ay ha.ax) (by rw[va.fin];exact hs) (by rw[List.length_map,va.fin];exact hs)) (ad (cd zi F F (ay ha.ax) (mR va hs)) (ae (T.cond F (fun hc=>?_) (fun hc=>?_)))))))))))
 ·refine aJ ?_
  refine ad (aN jd F bV F F) (ad (aQ 1 bK F F F F) (ad (br bW F aO F F (ay D3) (by show _<4;decide)) (ad (cd cS F F (ay D3) (show _=some (Value.int .i64 ((b.start.toNat:Nat):Int)) by rw[Int.toNat_of_nonneg vb.s0];rfl)) (ak F (aP H4 (k7 [2] (No base b.next.length sb c cv l b.start.toNat Hj FG (dl vb.toVal) (by have:=dE (Hj.imp fun h=>Nat.ne_of_lt h) FG;have:=vb.n4;omega))) F ?_)))))
  rintro vr O' ⟨A1,rfl,wb,wc,Tg,rfl,rfl⟩
  refine ad (aN jd F bV F F) (ak F (a8 (vs:=[(.slice wb ((yw b.next.length l b.start.toNat).length) wc)]) 2 bV F F F F ?_))
  refine ae (ai (ad (dh 2 jd F fu F F F) (ak F (a8 (vs:=[vI ((s:Nat):Int),(.slice wb ((yw b.next.length l b.start.toNat).length) wc)]) 1 fu F F F F ?_))))
  refine ae (aA (ap ?_))
  refine bL (i:=1) Tryz.results153 jd F fu F F F ?_
  exact⟨[am wb Tg 3 1 (aX (yw b.next.length l b.start.toNat))],(by exact Sub.k .z),wb,wc,Tg,by unfold tk;rw[if_pos hc];rfl,by unfold tk;rw[if_pos hc]⟩
 refine av (ai (ad (dh 1 jd F fu F F F) (ak F (a8 (vs:=[vI ((s:Nat):Int),(.slice sb l.length cv)]) 0 fu F F F F ?_))))
 refine ae (aA (ap ?_))
 refine bL (i:=0) Tryz.results153 jd F fu F F F ?_
 exact⟨[am sb c 3 1 (aX l)],(by exact Sub.d (.d (.k .z))),sb,cv,c,by unfold tk;rw[if_neg (by rw[hc];simp)];rfl,by unfold tk;rw[if_neg (by rw[hc];simp)]⟩
theorem LC (w:World) [cG Tryz.prog w] (s:Nat) (hs:s<4096) (sb:Option Addr) (c:Nat) (l:List Nat) (hS:Sl w sb (aX l)) (hl: ∀t∈l,t<4096) (FG:l.length≤4096):
  bI Tryz.prog 155 [.agg #[vI ((s:Nat):Int),.slice sb l.length c]] w fun v N=>v=str (xx (s,l))∧N=[]:=by
 refine aw func155 F ntmps155 F ?_
 let eQ:List Value:=[vI ((s:Nat):Int),(.slice sb l.length c)]
 refine ai (ak F (cH (cs:=eQ) F F (fun z1=>?_)))
 refine aj F (ae (aB ?_))
 refine eD [(0,0),(1,0),(4,0),(5,0),(2,1),(3,1),(6,2),(7,2),(8,2)] ?_
 refine ao F (aN jd F aO F F) (ao F (aQ 0 cS F F F F) (ao F (aN jd F bV F F) (ao F (aQ 0 bK F F F F) ?_)))
 refine bo F F (bM (v:=vI ((s:Nat):Int)) bK aO F F F (fun z2=>⟨by exact Sub.d (.k .z),?_⟩))
 refine bo F F (aP sv (aI fun w1 hI=>(haveI:=di hI;D0 w1 (aD z2) 1 [(s:Int)] (hI.fV (mG 0 F)) (fun n hn=>by simp at hn;subst hn;exact ll (by omega)) (by simp))) F ?_)
 rintro vr O' ⟨N,rfl,jb,jc,rfl,rfl⟩
 refine⟨by exact Sub.d (.d (.k .z)),?_⟩
 have s8:=bm.under (A:=[am jb jc 5 1 (bZ (gi [(s:Int)]))]) (B:=[am (aD z2) 1 3 1 [vI ((s:Nat):Int)],oI z1 208 eQ]) (O:=[am jb jc 5 1 (bZ (gi [(s:Int)])),am (aD z2) 1 3 1 [vI ((s:Nat):Int)],oI z1 208 eQ]) (show bm _ _ _ _ _ (fun v O'=> ∃b' c',v=.slice b' (xx (s,l)).length c'∧O'=[am b' c' 5 1 (bZ (xx (s,l)))])from by
   have h9:=Nk w jb sb jc (gi [(s:Int)]).length c (gi [(s:Int)]) (l.map fun y:Nat=>(y:Int)) F (by rw[eS];exact hS) (fun n hn=>by obtain⟨y,hy,rfl⟩:=List.mem_map.1 hn;exact ll (by have:=hl y hy;omega)) (by rw[List.length_map];have:=nh (l:=[(s:Int)]) (fun n hn=>by simp at hn;subst hn;exact ll (by omega));simp only[List.length_cons,List.length_nil]at this;omega)
   rw[List.length_map,←List.length_append,←qo]at h9
   exact h9) (by exact Sub.rf)
 refine bq F F (aP sv s8 F ?_)
 clear s8
 rintro vr O' ⟨A1,rfl,Vw,Vx,rfl,rfl⟩
 refine bq F F (dw F F (zQ (l:=xx (s,l)) lj ra eu F (mG 0 F) F) ?_)
 refine bq F F (dw F F (bt F) ?_)
 refine bw ?_
 refine aA (ap ?_)
 refine aE (str (xx (s,l))) Tryz.results155 F ?_
 exact⟨[],Sub.z,F,F⟩
theorem H5 (w:World) [cG Tryz.prog w] (a:bU) (ka:DK) (ha:At w a ka) (va:Valid a) (za:Nat) (rr:Sl w (aD za) (dC a ka)) (b:bU) (kb:DK) (hb:At w b kb) (vb:Valid b) (zb:Nat) (D3:Sl w (aD zb) (dC b kb)) (wF:a.vars=b.vars) (zf:Nat) (Th:Sl w (aD zf) [(.func (.func 153) #[] #[(cW (aD za) 0),(cW (aD zb) 0)])]) (s:Nat) (hs:s<a.next.length) (sb:Option Addr) (c:Nat) (l:List Nat) (hS:Sl w sb (aX l)) (Hj:l.Pairwise (· < ·)) (hl: ∀t∈l,t<b.next.length) (x:Nat) (hx:x<da a):
  bI Tryz.prog 156 [.agg #[vI ((s:Nat):Int),.slice sb l.length c],v8 x,(cW (aD zf) 0),(cW (aD za) 0),(cW (aD zb) 0)] w fun v N=> ∃b' c' c2,v=.agg #[vI ((dY a s x:Nat):Int),.slice b' (tk a b (dY a s x) (eA b l x)).length c']∧N=[am b' c2 3 1 (aX (tk a b (dY a s x) (eA b l x)))]:=by
 refine aw func156 F ntmps156 F ?_
 have KB:=ha.rows.1
 obtain⟨v1,c1,g1,s1⟩:=ha.rows.get hs
 have HX:a.next[s].length=da a:=va.len _ (List.getElem_mem hs)
 have B8:x<a.next[s].length:=by rw[HX];exact hx
 have Rq:x<da b:=by unfold da at hx⊢;rw[←wF];exact hx
 have FG:=dE (Hj.imp fun h=>Nat.ne_of_lt h) hl
 have hb4:=vb.n4
 have Kh:=lm b l x
 refine ai (ak F (cH (cs:=[vI ((s:Nat):Int),(.slice sb l.length c)]) F F (fun z1=>?_)))
 refine ak F (aR fu F (fun z2=>?_))
 refine ae (aB ?_)
 refine T.ds [oI z2 208 [(vI 0),nS],oI z1 208 [vI ((s:Nat):Int),(.slice sb l.length c)]] [(0,0),(1,0),(2,0),(3,0),(4,0),(5,0),(6,0),(7,0),(8,0),(9,0),(10,0),(11,0),(12,0),(13,0),(14,1),(15,0),(16,2),(17,2)] (by exact Sub.rf) ?_
 refine ao F (cd Nu F F (ay Th) F) (ao F (br bW F dM F F (ay rr) (by show _<4;decide)) (ao F (cd du F F (ay rr) F) (ao F (aN jd F aO F F) (ao F (aQ 1 cS F F F F) (ao F (cV (i:=s) du bV F F (ay ha.outer) hs (KB▸hs)) (ao F (cd bK F F (ay ha.outer) g1) (ao F (az F) ?_)))))))
 refine ao F (cV (i:=x) bK aO F F (ay s1) B8 (by rw[List.length_map];exact B8)) (ao F (cd cS F F (ay s1) (uy va hs hx)) (ao F (dy (vs:=(dC b kb)) bW F aY F F (Nat.succ_pos _) (ay D3) (fun j hj=>by rw[Nat.zero_add];exact List.getElem?_eq_getElem hj)) (ao F (aN jd F bV F F) ?_)))
 refine ao F (aQ 1 bK F F F F) (ao F (az F) ?_)
 refine bo F F (aP H6 (aI fun w1 hI=>(haveI:=di hI;Nl w1 b kb (hI.nN hb) vb sb c l (hI.sl hS) hl (by omega) x Rq)) F ?_)
 rintro vr O' ⟨N,rfl,tb,tc,rfl,rfl⟩
 refine⟨by exact Sub.d (.k (.k .z)),?_⟩
 refine ao F (bG (cs:=[vI ((dY a s x:Nat):Int),(.slice tb ((eA b l x).length) tc)]) D4 fu (by kernel_rfl)) ?_
 have vn:=bQ (first:=[]) (args:=[.agg #[vI ((dY a s x:Nat):Int),.slice tb (eA b l x).length tc]]) (eY:=[(cW (aD za) 0),(cW (aD zb) 0)]) H7 (bm.under (A:=[am tb tc 3 1 (aX (eA b l x))]) (B:=[oI z2 208 [(vI 0),nS],oI z1 208 [vI ((s:Nat):Int),(.slice sb l.length c)]]) (O:=[am tb tc 3 1 (aX (eA b l x)),oI z2 208 [(vI 0),nS],oI z1 208 [vI ((s:Nat):Int),(.slice sb l.length c)]]) (H3 w a ka ha va za rr b kb hb vb zb D3 (dY a s x) (va.fF hs hx).1 tb tc tc (eA b l x) Kh.1 Kh.2) (by exact Sub.rf))
 refine bq F F (dx vn F F ?_)
 clear vn
 rintro vr O' ⟨A1,rfl,eb,ec,Y2,rfl,rfl⟩
 refine bq F F (a8 (vs:=[vI ((dY a s x:Nat):Int),(.slice eb ((tk a b (dY a s x) (eA b l x)).length) ec)]) 1 fu F F F F ?_)
 refine bw ?_
 refine aA (ap ?_)
 refine bL (i:=1) Tryz.results156 jd F fu F F F ?_
 exact⟨[am eb Y2 3 1 (aX (tk a b (dY a s x) (eA b l x)))],(by exact Sub.k .z),eb,ec,Y2,F,F⟩
theorem LD (w:World) [cG Tryz.prog w] (b:bU) (kb:DK) (hb:At w b kb) (vb:Valid b) (zb:Nat) (D3:Sl w (aD zb) (dC b kb)) (s:Nat) (sb:Option Addr) (c:Nat) (l:List Nat) (hS:Sl w sb (aX l)) (hl: ∀t∈l,t<b.next.length) (FG:l.length≤4096):
  bI Tryz.prog 157 [.agg #[vI ((s:Nat):Int),.slice sb l.length c],(cW (aD zb) 0)] w fun v N=>v=.bool (Pq b (s,l))∧N=[]:=by
 refine aw func157 F ntmps157 F ?_
 refine ai (ak F (cH (cs:=[vI ((s:Nat):Int),(.slice sb l.length c)]) F F (fun z1=>?_)))
 refine aj F (ae (ai ?_))
 refine ad (dy (vs:=(dC b kb)) bW F aY F F (Nat.succ_pos _) (ay D3) (fun j hj=>by rw[Nat.zero_add];exact List.getElem?_eq_getElem hj)) (ad (aN jd F bV F F) (ad (aQ 0 bK F F F F) ?_))
 refine ak F (aP yB (aI fun w1 hI=>(haveI:=di hI;uh w1 b kb (hI.nN hb) vb sb c l (hI.sl hS) hl (by omega))) F ?_)
 rintro vr O' ⟨N,rfl,rfl,rfl⟩
 refine aj F (ae (aA (ap ?_)))
 refine aE (.bool (l.any (cF b))) Tryz.results157 F ?_
 exact⟨[],Sub.z,F,F⟩
end Go.Proofs.YtgdbfideeeegmaaGreatDoor

namespace Go.Proofs.YtgdbfideeeegmaaGreatDoor
open Go.Lx Go.RowKit _root_.Go.Proofs.Tryz
theorem Py (base:World) [cG Tryz.prog base] (x:Int):bm Tryz.prog base 147 [vI x] [] (fun v O'=>v=.bool (decide (x<0))∧O'=[]):=by
 refine aw func147 F ntmps147 F ?_
 refine ai (aj F (ae (ai (ah F (ad (bT F F) (aj F (ae (aA ?_))))))))
 refine aE (.bool (decide (x<0))) Tryz.results147 F ?_
 exact⟨F,F⟩
theorem LG (base:World) [cG Tryz.prog base] (b:Option Addr) (c:Nat) (z:List Int) (hz: ∀x∈z,0≤x) (hb:z.length≤1000000):
  bm Tryz.prog base 145 [.slice b z.length c,(.func (.func 147) #[] #[])] [am b c 3 1 (ints z)] (fun v O'=>v=.slice b z.length c∧O'=[am b c 3 1 (ints z)]):=by
 refine aw func145 F ntmps145 F ?_
 refine ai (aj F (ae (ai (ah F (ah F ?_)))))
 refine ak F (aP Cv (aI fun w1 hI=>(haveI:=di hI;(show bI _ _ _ _ _ from by
   have h9:=qm w1 b c z (hI.fV (mG 0 F)) (by omega) (.func (.func 147) #[] #[]) (fun x=>decide (x<0)) [] (fun x hx=>bQ (first:=[]) (args:=[vI x]) (eY:=[]) Cy (Py w1 x))
   exact h9))) F ?_)
 rintro vr O' ⟨N,rfl,i9,rfl,hi,rfl⟩
 have GW:i9= -1:=by
  rcases hi with⟨_,h⟩|⟨k,_,h1,_,h2⟩
  ·exact h
  ·have:=hz _ (List.getElem_mem h1)
   rw[List.getD_eq_getElem?_getD,List.getElem?_eq_getElem h1]at h2
   simp at h2;omega
 refine aj F (ae (aB (ai (ah F (ad (aZ F F) (ae ?_))))))
 refine bj (by rw[GW];rfl) ?_
 refine ai (ah F (aj F (ae (aA ?_))))
 refine aE (.slice b z.length c) Tryz.results145 F ?_
 exact⟨F,F⟩
def XS (z:List Int) (k:Nat):List Int:=z.take k++((-1)::z).drop k
theorem vo {z:List Int} {k:Nat} (h:k≤z.length):(XS z k).length=z.length+1:=by simp[XS];omega
theorem Tn {z:List Int} {k:Nat} (h:k<z.length):(XS z k)[k+1]? =some z[k]:=by
 unfold XS
 rw[List.getElem?_append_right (by simp;omega),List.getElem?_drop]
 simp[Nat.min_eq_left (Nat.le_of_lt h),show k+(k+1-k)=k+1 by omega,h]
theorem Pz {z:List Int} {k:Nat} (h:k<z.length):dK (ints (XS z k)) k [vI z[k]]=ints (XS z (k+1)):=by
 simp only[dK]
 apply List.ext_getElem?
 intro j
 have hl:(ints (XS z k)).length=z.length+1:=by rw[List.length_map,vo (Nat.le_of_lt h)]
 by_cases c1:j=k
 ·subst c1
  rw[List.getElem?_set_self (by omega),List.getElem?_map]
  unfold XS
  rw[List.getElem?_append_left (by simp;omega),List.getElem?_take,if_pos (by omega),List.getElem?_eq_getElem h];rfl
 ·rw[List.getElem?_set_ne (fun e=>c1 e.symm),List.getElem?_map,List.getElem?_map]
  congr 1
  unfold XS
  by_cases c2:j<k
  ·rw[List.getElem?_append_left (by simp;omega),List.getElem?_append_left (by simp;omega),List.getElem?_take,List.getElem?_take,if_pos c2,if_pos (by omega)]
  ·rw[List.getElem?_append_right (by simp;omega),List.getElem?_append_right (by simp;omega),List.getElem?_drop,List.getElem?_drop]
   simp only[List.length_take,Nat.min_eq_left (Nat.le_of_lt h),Nat.min_eq_left h]
   congr 1;omega
theorem LH (base:World) [cG Tryz.prog base] (bk o c:Nat) (z:List Int) (hz: ∀x∈z,0≤x) (hb:z.length≤1000000) (BP:z.length+1≤c):
  bm Tryz.prog base 145 [.slice (some ⟨bk,o,none⟩) (z.length+1) c,(.func (.func 147) #[] #[])] [am (some ⟨bk,o,none⟩) c 3 1 (ints (-1::z))] (fun v O'=>v=.slice (some ⟨bk,o,none⟩) z.length c∧O'=[am (some ⟨bk,o,none⟩) c 3 1 (ints z)]):=by
 refine aw func145 F ntmps145 F ?_
 have hcz:z.length+1≤c:=BP
 refine ai (aj F (ae (ai (ah F (ah F ?_)))))
 refine ak F (aP Cv (aI fun w1 hI=>(haveI:=di hI;(show bI _ _ _ _ _ from by
   have h9:=qm w1 (some ⟨bk,o,none⟩) c (-1::z) (hI.fV (mG 0 F)) (by simp;omega) (.func (.func 147) #[] #[]) (fun x=>decide (x<0)) [] (fun x hx=>bQ (first:=[]) (args:=[vI x]) (eY:=[]) Cy (Py w1 x))
   exact h9))) F ?_)
 rintro vr O' ⟨N,rfl,i9,rfl,hi,rfl⟩
 have GW:i9=((0:Nat):Int):=by
  rcases hi with⟨h,_⟩|⟨k,h,_,h1,_⟩
  ·simp at h
  ·cases k with
   |zero=>exact h
   |succ k=>simp at h1
 refine ad (a7 (bt F) (v':=vN 0) (show Value.int .i64 i9=_ by rw[GW])) (ae (aB (ai (ah F (ad (aZ F F) (ae (aL F (av (aB (ai (ah F (ad (cx (a:=0) (b:=1) F F (by omega)) (aj F (ae (aG ?_)))))))))))))))
 refine dm (fun(k:Nat) ρ O=>O=[am (some ⟨bk,o,none⟩) c 3 1 (ints (XS z k))]∧k≤z.length∧cw [(0,(.slice (some ⟨bk,o,none⟩) (z.length+1) c)),(1,(.func (.func 147) #[] #[])),(4,nS),(5,vN k),(6,vN (k+1))] ρ) (fun k=>z.length-k) 0 ?_ ?_
 ·exact⟨F,Nat.zero_le _,(.of F)⟩
 rintro k ρ O ⟨rfl,hk,hH⟩
 obtain⟨fE,rfl⟩:=hH.elim
 clear hH
 have B8:=vo hk
 refine aB (ai (ah F (ah F (ad (bS bK F) (ad (bT F F) (ae (aC F (fun hc=>?_) (fun hc=>?_))))))))
 ·have Nv:k+1<z.length+1:=by omega
  have WP:k<z.length:=by omega
  refine av (aB (aG (ai ?_)))
  refine ah F (ah F (ad (cV (i:=(k+1)) bK aO F F (cP (mG 0 F)) (by omega) (by rw[List.length_map,vo hk];omega)) (ad (cd cS F F (cP (mG 0 F)) (show(ints (XS z k))[k+1]? =some (vI z[k]) by rw[List.getElem?_map,Tn WP];rfl)) ?_)))
  refine aj F (ae (ai (ah F (ah F ?_))))
  let eQ:Lx.Item:=am (some ⟨bk,o,none⟩) c 3 1 (ints (XS z k))
  have AK:=(dn.under (A:=[]) (B:=[eQ]) (O:=[eQ]) (bQ (first:=[]) (args:=[vI z[k]]) (eY:=[]) Cy (Py base z[k])) (bn (List.Sublist.refl _)))
  refine ak F (dx AK F F ?_)
  clear AK
  rintro vr O' ⟨A1,rfl,rfl,rfl⟩
  refine ad (gy F) (ae ?_)
  refine bj (show Value.bool (!decide (z[k]<0))=_ by rw[decide_eq_false (by have:=hz _ (List.getElem_mem WP);omega)];rfl) ?_
  refine ai (ah F (ah F (ah F (ad (cV (i:=k) bK aO F F (cP (mG 0 F)) (by omega) (by rw[List.length_map,vo hk];omega)) (ak F (lB (j:=k) (v:=vI z[k]) (vs:=[(vI z[k])]) (cs:=ints (XS z k)) 0 aO F F F F F (by simp) F (by rw[List.length_map,vo hk];simp;omega) ?_))))))
  refine cQ (O':=[am (some ⟨bk,o,none⟩) c 3 1 (ints (XS z (k+1)))]) (by rw[show dK (ints (XS z k)) k [(vI z[k])]=ints (XS z (k+1))from(Pz WP)];exact bn (List.Sublist.refl _)) ?_
  refine ae (aJ (ah F (ad (cx (a:=k) (b:=1) F F (by omega)) (aj F (ae (aJ (ah F (ad (cx (a:=(k+1)) (b:=1) F F (by omega)) (aj F (ae ?_))))))))))
  exact⟨k+1,by omega,F,by omega,(.of F)⟩
 have Nw: ¬k+1<z.length+1:=by omega
 refine bJ ?_
 refine ai (ah F (ah F (ad (zT (lo:=k) bK aO F F (by omega) (by omega)) (ak F (Ia (m:=z.length+1) (lo:=k) 0 bK aO F F F (by omega) (by omega) F ?_)))))
 refine ae (ai (ah F (ah F (ad (Fm (hi:=k) bK aO F F (by omega)) (aj F (ae (aA ?_)))))))
 refine aE (.slice (some ⟨bk,o,none⟩) k c) Tryz.results145 F ?_
 have Rr:k=z.length:=by omega
 have WQ:(ints (XS z k)).take k=ints z:=by
  rw[Rr,←List.map_take];unfold XS;rw[List.take_length,List.take_append_of_le_length (Nat.le_refl _),List.take_length]
 rw[WQ]
 exact⟨congrArg (fun n9:Nat=>Value.slice (some ⟨bk,o,none⟩) n9 c) Rr,F⟩
theorem LI (base:World) [cG Tryz.prog base] (b:Option Addr) (c:Nat) (q:Bool×List Nat) (hb:q.2.length≤1000000):
  bm Tryz.prog base 145 [.slice b (gS q).length c,(.func (.func 147) #[] #[])] [am b c 3 1 (ints (gS q))] (fun v O'=>v=.slice b q.2.length c∧O'=[am b c 3 1 (aX q.2)]):=by
 obtain⟨g,l⟩:=q
 have hz: ∀x∈l.map (fun y:Nat=>(y:Int)),0≤x:=fun x hx=>by obtain⟨y,_,rfl⟩:=List.mem_map.1 hx;omega
 cases g with
 |false=>
  have h9:=LG base b c (l.map fun y:Nat=>(y:Int)) hz (by rw[List.length_map];exact hb)
  rw[List.length_map,eS]at h9
  rw[show gS (false,l)=l.map (fun y:Nat=>(y:Int))from F,List.length_map,eS]
  exact h9
 |true=>
  rw[show gS (true,l)= -1::l.map (fun y:Nat=>(y:Int))from F,List.length_cons,List.length_map]
  intro w M hI
  have hO:(([am b c 3 1 (ints (-1::l.map fun y:Nat=>(y:Int)))]++M:List Lx.Item))[0]? =some (am b c 3 1 (ints (-1::l.map fun y:Nat=>(y:Int)))):=rfl
  cases b with
  |none=>exact absurd (hI.row hO).1 (by simp)
  |some a=>
   obtain⟨bk,o,sp⟩:=a
   have wl:sp=none:=(hI.row hO).1
   subst wl
   obtain⟨_,full,_,h1,_⟩:=hI.row hO
   have h9:=LH base bk o c (l.map fun y:Nat=>(y:Int)) hz (by rw[List.length_map];exact hb) (by simpa using h1)
   rw[List.length_map,eS]at h9
   exact h9 w M hI
end Go.Proofs.YtgdbfideeeegmaaGreatDoor

namespace Go.Proofs.YtgdbfideeeegmaaGreatDoor
open Go.Lx Go.RowKit _root_.Go.Proofs.Tryz
theorem Ib (w:World) [cG Tryz.prog w] (a:bU) (va:Valid a) (g:Bool) (l:List Nat) (sb:Option Addr) (c:Nat) (hS:Sl w sb (ints (gS (g,l)))) (hG:GS a (g,l)):
  bI Tryz.prog 142 [(.slice sb ((gS (g,l)).length) c)] w fun v N=>v=str (zk (g,l))∧N=[]:=by
 refine aw func142 F ntmps142 F ?_
 have WR:l.length≤4096:=Nat.le_trans (dE (hG.Pt.imp fun h=>Nat.ne_of_lt h) hG.lt) va.n4
 have Vy:(gS (g,l)).length≤4097:=by unfold gS;split<;>simp<;>omega
 refine ai (aj F (ae (ai (ah F (ak F (aP sv (aI fun w1 hI=>(haveI:=di hI;D0 w1 sb c (gS (g,l)) (hI.sl hS) (vp va.n4 hG) (by omega))) F ?_))))))
 rintro vr O' ⟨N,rfl,jb,jc,rfl,rfl⟩
 refine ad (zQ (l:=zk (g,l)) lj ra eu F (mG 0 F) F) (aj F (ae (aA (ap ?_))))
 refine aE (str (zk (g,l))) Tryz.results142 F ?_
 exact⟨[],Sub.z,F,F⟩
theorem FI (w:World) [cG Tryz.prog w] (a:bU) (ka:DK) (ha:At w a ka) (va:Valid a) (za:Nat) (rr:Sl w (aD za) (dC a ka)) (g:Bool) (l:List Nat) (sb:Option Addr) (c:Nat) (hS:Sl w sb (ints (gS (g,l)))) (hG:GS a (g,l)) (x:Nat) (hx:x<da a):
  bI Tryz.prog 143 [(.slice sb ((gS (g,l)).length) c),v8 x,(cW (aD za) 0)] w fun v N=> ∃b' c' c2,v=.slice b' (ru a (g,l) x).2.length c'∧N=[am b' c2 3 1 (aX (ru a (g,l) x).2)]:=by
 refine aw func143 F ntmps143 F ?_
 have WR:l.length≤4096:=Nat.le_trans (dE (hG.Pt.imp fun h=>Nat.ne_of_lt h) hG.lt) va.n4
 have Vy:(gS (g,l)).length≤4097:=by unfold gS;split<;>simp<;>omega
 have Kh:=lm a l x
 have Hd:(eA a l x).length≤4096:=Nat.le_trans (Ic _ _) va.n4
 refine ai (aj F (ae (aB ?_)))
 refine T.ds [] [(0,0),(1,0),(4,0),(2,1),(3,1),(5,2),(6,2)] (bn (List.nil_sublist _)) ?_
 refine ao F (dy (vs:=(dC a ka)) bW F aY F F (Nat.succ_pos _) (ay rr) (fun j hj=>by rw[Nat.zero_add];exact List.getElem?_eq_getElem hj)) (ao F (az F) (ao F (az F) ?_))
 refine bo F F (aP HZ (aI fun w1 hI=>(haveI:=di hI;H0 w1 sb c (gS (g,l)) (hI.sl hS) (by omega))) F ?_)
 rintro vr O' ⟨N,rfl,nb,nc,rfl,rfl,Vv⟩
 refine⟨by exact Sub.z,?_⟩
 refine bo F F (aP PA (k7 [0] (LI w nb nc (g,l) (by show l.length≤_;omega))) F ?_)
 rintro vr O' ⟨A1,rfl,rfl,rfl⟩
 refine⟨by exact Sub.z,?_⟩
 refine bq F F (aP H6 (aI fun w1 hI=>(haveI:=di hI;Nl w1 a ka (hI.nN ha) va nb nc l (hI.fV (mG 0 F)) hG.lt (by omega) x hx)) F ?_)
 rintro vr O' ⟨N,rfl,tb,tc,rfl,rfl⟩
 refine bq F F (dw F F (bt F) ?_)
 refine bw ?_
 refine aB (ai ?_)
 refine ad (dy (vs:=(dC a ka)) bW F aY F F (Nat.succ_pos _) (ay rr) (fun j hj=>by rw[Nat.zero_add];exact List.getElem?_eq_getElem hj)) (ah F ?_)
 refine ak F (aP yB (aI fun w1 hI=>(haveI:=di hI;uh w1 a ka (hI.nN ha) va tb tc (eA a l x) (hI.fV (mG 0 F)) Kh.2 (by omega))) F ?_)
 rintro vr O' ⟨N,rfl,rfl,rfl⟩
 refine ae (T.cond F (fun hc=>?_) (fun hc=>?_))
 ·refine aJ ?_
  refine ah F (ad (br bW F aO F F (ay rr) (by show _<4;decide)) (ad (cd cS F F (ay rr) (show _=some (Value.int .i64 ((a.start.toNat:Nat):Int)) by rw[Int.toNat_of_nonneg va.s0];rfl)) (ak F (aP H4 (k7 [0] (No w a.next.length tb tc tc (eA a l x) a.start.toNat Kh.1 Kh.2 (dl va.toVal) (by omega))) F ?_))))
  rintro vr O' ⟨A1,rfl,wb,wc,Tg,rfl,rfl⟩
  refine aj F (ae (ai (ah F (aj F (ae (aA (ap ?_)))))))
  refine aE (.slice wb ((yw a.next.length (eA a l x) a.start.toNat).length) wc) Tryz.results143 F ?_
  have e9:(ru a (g,l) x).2=yw a.next.length (eA a l x) a.start.toNat:=by show(if _ then _ else _)=_;rw[if_pos hc]
  rw[e9]
  exact⟨[am wb Tg 3 1 (aX (yw a.next.length (eA a l x) a.start.toNat))],(by exact Sub.k .z),wb,wc,Tg,F,F⟩
 refine av (ai (ah F (aj F (ae (aA (ap ?_))))))
 refine aE (.slice tb ((eA a l x).length) tc) Tryz.results143 F ?_
 have e9:(ru a (g,l) x).2=eA a l x:=by show(if _ then _ else _)=_;rw[if_neg (by rw[hc];simp)]
 rw[e9]
 exact⟨[am tb tc 3 1 (aX (eA a l x))],(by exact Sub.k .z),tb,tc,tc,F,F⟩
theorem Ie (w:World) [cG Tryz.prog w] (a:bU) (ka:DK) (ha:At w a ka) (va:Valid a) (za:Nat) (rr:Sl w (aD za) (dC a ka)) (l:List Nat) (sb:Option Addr) (c:Nat) (hS:Sl w sb (ints (gS (true,l)))) (hG:GS a (true,l)):
  bI Tryz.prog 150 [(.slice sb (l.length+1) c),(cW (aD za) 0)] w fun v N=>v=.bool (LJ a (true,l))∧N=[]:=by
 refine aw func150 F ntmps150 F ?_
 have WR:l.length≤4096:=Nat.le_trans (dE (hG.Pt.imp fun h=>Nat.ne_of_lt h) hG.lt) va.n4
 rw[show gS (true,l)= -1::l.map (fun y:Nat=>(y:Int))from F]at hS
 refine ai (aj F (ae (ai (ah F (ad (bS bK F) (ad (aq (fW F F) (decide_eq_true (by omega))) (ah F (au F F (az F) (au F F (cV (i:=0) bK aO F F (ay hS) (by omega) (by simp)) (au F F (cd cS F F (ay hS) F) (au F F (aq (bT F F) (decide_eq_true (by decide))) ?_)))))))))))
 refine ad (bu F F) (ah F (aF F F (aF F F (aF F F (ad (bu F F) (aj F (ae (aA (ap ?_)))))))))
 refine aE (.bool true) Tryz.results150 F ?_
 exact⟨[],Sub.z,F,F⟩
theorem If (w:World) [cG Tryz.prog w] (a:bU) (ka:DK) (ha:At w a ka) (va:Valid a) (za:Nat) (rr:Sl w (aD za) (dC a ka)) (l:List Nat) (sb:Option Addr) (c:Nat) (hS:Sl w sb (ints (gS (false,l)))) (hG:GS a (false,l)):
  bI Tryz.prog 150 [(.slice sb l.length c),(cW (aD za) 0)] w fun v N=>v=.bool (LJ a (false,l))∧N=[]:=by
 refine aw func150 F ntmps150 F ?_
 have WR:l.length≤4096:=Nat.le_trans (dE (hG.Pt.imp fun h=>Nat.ne_of_lt h) hG.lt) va.n4
 rw[show ints (gS (false,l))=aX l by rw[←eS];rfl]at hS
 refine ai (aj F (ae (ai (ah F (ad (bS bK F) ?_)))))
 by_cases Gp:((l.length:Nat):Int)>0
 ·refine ad (aq (fW F F) (decide_eq_true Gp)) ?_
  refine ah F (au F F (az F) (au F F (cV (i:=0) bK aO F F (ay hS) (by omega) (by rw[List.length_map];omega)) (au F F (cd cS F F (ay hS) (fO (show 0<l.length by omega))) (au F F (aq (bT F F) (decide_eq_false (by omega))) (ad (bu F F) (ah F ?_))))))
  refine au F F (dy (vs:=(dC a ka)) bW F aY F F (Nat.succ_pos _) (ay rr) (fun j hj=>by rw[Nat.zero_add];exact List.getElem?_eq_getElem hj)) ?_
  refine au F F (az F) ?_
  refine fU F F F (aP yB (aI fun w1 hI=>(haveI:=di hI;uh w1 a ka (hI.nN ha) va sb c l (hI.sl hS) hG.lt (by omega))) F ?_)
  rintro vr O' ⟨N,rfl,rfl,rfl⟩
  refine ad (bl F F) (aj F (ae (aA (ap ?_))))
  refine aE (.bool (l.any (cF a))) Tryz.results150 F ?_
  exact⟨[],Sub.z,F,F⟩
 refine ad (aq (fW F F) (decide_eq_false Gp)) (ah F (aF F F (aF F F (aF F F (aF F F (ad (bl F F) (ah F ?_)))))))
 refine au F F (dy (vs:=(dC a ka)) bW F aY F F (Nat.succ_pos _) (ay rr) (fun j hj=>by rw[Nat.zero_add];exact List.getElem?_eq_getElem hj)) ?_
 refine au F F (az F) ?_
 refine fU F F F (aP yB (aI fun w1 hI=>(haveI:=di hI;uh w1 a ka (hI.nN ha) va sb c l (hI.sl hS) hG.lt (by omega))) F ?_)
 rintro vr O' ⟨N,rfl,rfl,rfl⟩
 refine ad (bl F F) (aj F (ae (aA (ap ?_))))
 refine aE (.bool (l.any (cF a))) Tryz.results150 F ?_
 exact⟨[],Sub.z,F,F⟩
theorem Ig (w:World) [cG Tryz.prog w] (a:bU) (ka:DK) (ha:At w a ka) (va:Valid a) (za:Nat) (rr:Sl w (aD za) (dC a ka)) (g:Bool) (l:List Nat) (sb:Option Addr) (c:Nat) (hS:Sl w sb (ints (gS (g,l)))) (hG:GS a (g,l)):
  bI Tryz.prog 150 [(.slice sb ((gS (g,l)).length) c),(cW (aD za) 0)] w fun v N=>v=.bool (LJ a (g,l))∧N=[]:=by
 cases g with
 |true=>
  rw[show(gS (true,l)).length=l.length+1 by rw[show gS (true,l)= -1::l.map (fun y:Nat=>(y:Int))from F];simp]
  exact Ie w a ka ha va za rr l sb c hS hG
 |false=>
  rw[show(gS (false,l)).length=l.length by rw[show gS (false,l)=l.map (fun y:Nat=>(y:Int))from F];simp]
  exact If w a ka ha va za rr l sb c hS hG
def Ih (a:bU) (w:World) (k:Key) (r:SR):Prop:= ∃g l sb cc,GS a (g,l)∧k=zk (g,l)∧r.a=.slice sb (gS (g,l)).length cc∧r.b=.bool false∧((∃c2,r.ik=[am sb c2 3 1 (ints (gS (g,l)))])∨(r.ik=[]∧Sl w sb (ints (gS (g,l)))))
theorem Ih.sl {w w1:World} {sb:Option Addr} {cs:List Value} {ik:List Lx.Item} (hI:Inv w [] w1) (h:(∃c2,ik=[am sb c2 3 1 cs])∨(ik=[]∧Sl w sb cs)) (dZ: ∀it∈ik,it.P w1):Sl w1 sb cs:=by
 rcases h with⟨c2,he⟩|⟨_,h⟩
 ·exact rowP.sl (dZ (am sb c2 3 1 cs) (by rw[he];simp))
 ·exact hI.sl h
theorem Ih.one {a:bU} {w:World} {k:Key} {r:SR} (h:Ih a w k r):dS r.a=true∧dS r.b=true:=by
 obtain⟨g,l,sb,cc,_,_,h1,h2,_⟩:=h
 rw[h1,h2];exact⟨F,F⟩
set_option maxRecDepth 20000 in
theorem PB (w:World) [cG Tryz.prog w] (a:bU) (ka:DK) (ha:At w a ka) (va:Valid a) (za:Nat) (rr:Sl w (aD za) (dC a ka)) (w1:World) [cG Tryz.prog w1] (hI:Inv w [] w1) (k:Key) (r:SR) (hR:Ih a w k r) (dZ: ∀it∈r.ik,it.P w1):dn Tryz.prog w1 (.func (.func 142) #[] #[]) [r.a] [] (fun v O'=>v=str k∧O'=[]):=by
 obtain⟨g,l,sb,cc,hG,rfl,e1,e2,hm⟩:=hR
 have hS:=Ih.sl hI hm dZ
 rw[e1]
 exact bQ (first:=[]) (args:=[.slice sb (gS (g,l)).length cc]) (eY:=[]) PC (Ib w1 a va g l sb cc hS hG)
set_option maxRecDepth 20000 in
theorem PD (w:World) [cG Tryz.prog w] (a:bU) (ka:DK) (ha:At w a ka) (va:Valid a) (za:Nat) (rr:Sl w (aD za) (dC a ka)) (w1:World) [cG Tryz.prog w1] (hI:Inv w [] w1) (k:Key) (r:SR) (hR:Ih a w k r) (dZ: ∀it∈r.ik,it.P w1) (x:Nat) (hx:x<da a):dn Tryz.prog w1 (.func (.func 143) #[] #[(cW (aD za) 0)]) [r.a,.int .u8 (x:Int)] [] (fun v N=> ∃r',v=r'.a∧N=r'.ik∧Ih a w (zj (GS a) zk (ru a) k x) r'):=by
 obtain⟨g,l,sb,cc,hG,rfl,e1,e2,hm⟩:=hR
 have hS:=Ih.sl hI hm dZ
 rw[e1]
 refine(bQ (first:=[]) (args:=[.slice sb (gS (g,l)).length cc,.int .u8 (x:Int)]) (eY:=[(cW (aD za) 0)]) PE (FI w1 a ka (hI.nN ha) va za (hI.sl rr) g l sb cc hS hG x hx)).mono ?_
 rintro v O' ⟨b',c',c2,rfl,rfl⟩
 have e3:gS (ru a (g,l) x)=(ru a (g,l) x).2.map fun y:Nat=>(y:Int):=rfl
 exact⟨⟨.slice b' (ru a (g,l) x).2.length c',.bool false,[am b' c2 3 1 (aX (ru a (g,l) x).2)]⟩,F,F,false,(ru a (g,l) x).2,b',c',GS.next x,sw (yE va) hG hx,by show _=Value.slice b' (gS (ru a (g,l) x)).length c';rw[e3,List.length_map],F,.inl ⟨c2,by show _=[am b' c2 3 1 (ints (gS (ru a (g,l) x)))];rw[e3,eS]⟩⟩
set_option maxRecDepth 20000 in
theorem PF (w:World) [cG Tryz.prog w] (a:bU) (ka:DK) (ha:At w a ka) (va:Valid a) (za:Nat) (rr:Sl w (aD za) (dC a ka)) (w1:World) [cG Tryz.prog w1] (hI:Inv w [] w1) (k:Key) (r:SR) (hR:Ih a w k r) (dZ: ∀it∈r.ik,it.P w1):dn Tryz.prog w1 (.func (.func 150) #[] #[(cW (aD za) 0)]) [r.a] [] (fun v O'=>v=.bool (FH (GS a) zk (LJ a) k)∧O'=[]):=by
 obtain⟨g,l,sb,cc,hG,rfl,e1,e2,hm⟩:=hR
 have hS:=Ih.sl hI hm dZ
 rw[e1]
 rw[yC (yE va) hG]
 exact bQ (first:=[]) (args:=[.slice sb (gS (g,l)).length cc]) (eY:=[(cW (aD za) 0)]) PG (Ig w1 a ka (hI.nN ha) va za (hI.sl rr) g l sb cc hS hG)
theorem To (w:World) [cG Tryz.prog w] (cb:Nat) (eb:Option Addr) (en ec vs B:Nat) (dz:Sl w (aD cb) [.slice eb en ec,vI (vs:Int),vI (B:Int)]) (eT:vs≤6) (gn:1≤B) (hB:B≤4096) (a:bU) (ka:DK) (ha:At w a ka) (va:Valid a) (Tl:a.vars=(vs:Int)):
  cB Tryz.prog w (.iface 163 (.agg #[])) 105 [(cW (aD cb) 0),dV a ka] [] (fun v N=> ∃M k',v=dV M k'∧N=[dI 56 4 3 M k']∧eF (vs:Int) B M (pQ (gq a))∧Cz a (da a) B) (¬Cz a (da a) B):=by
 refine cJ func105 F ntmps105 F ?_
 refine ai (ak F (cH (cs:=(dC a ka)) F F (fun z1=>?_)))
 refine ak F (aR aY F (fun z2=>?_))
 refine ae (ai (ah F (ad (aN bW F aO F F) (ad (a7 (aQ 1 cS F F F F) (v':=vI ((a.start.toNat:Nat):Int)) (show Value.int .i64 a.start=_ by rw[Int.toNat_of_nonneg va.s0])) (ak F (bH (m:=2) (parts:=[(0,.const (vI (-1))),(1,.tmp 7)]) (cs:=[vI (-1),vI ((a.start.toNat:Nat):Int)]) bK aO (by decide) (by kernel_rfl) F (fun z3=>?_)))))))
 refine ad (dQ) (ad (dQ) ?_)
 have AL:=fun(w1:World) (hI:Inv w [am (aD z3) 2 3 1 [vI (-1),vI ((a.start.toNat:Nat):Int)],oI z2 25 [(vI 0),(vI 0),nS,nS],oI z1 25 (dC a ka)] w1)=>(haveI:=di hI;Cw w1 cb eb en ec vs B (da a) (hI.sl dz) eT (by unfold da;rw[Tl];rfl) gn hB (zj (GS a) zk (ru a)) (FH (GS a) zk (LJ a)) (zk (CA a)) (Ih a w1) ⟨.slice (aD z3) 2 2,.bool false,[]⟩ (.func (.func 142) #[] #[]) (.func (.func 143) #[] #[(cW (aD z1) 0)]) (.func (.func 150) #[] #[(cW (aD z1) 0)]) ⟨true,[a.start.toNat],(aD z3),2,GS.start va.toVal,F,F,F,.inr ⟨F,hI.fV (mG 0 F)⟩⟩ F (fun k r h=>h.one) (fun w2 k r nw hR dZ=>haveI:=di nw;PB w1 a ka (hI.nN ha) va z1 (hI.iG (mG 2 F)) w2 nw k r hR dZ) (fun w2 k r x nw hR dZ hx=>haveI:=di nw;PD w1 a ka (hI.nN ha) va z1 (hI.iG (mG 2 F)) w2 nw k r hR dZ x hx) (fun w2 k r nw hR dZ=>haveI:=di nw;PF w1 a ka (hI.nN ha) va z1 (hI.iG (mG 2 F)) w2 nw k r hR dZ))
 refine de F (dA PH (cB.pure AL) F (fun z _=>⟨F,z⟩) ?_)
 clear AL
 rintro vr O' ⟨N,rfl,M,k9,rfl,rfl,hM,H_⟩
 refine ak F (a8 (vs:=(dC M k9)) 2 aY F F F F ?_)
 refine ae (aA (ap ?_))
 refine bL (i:=2) Tryz.results105 bW F aY F F F ?_
 exact⟨[dI 56 4 3 M k9],(by exact Sub.k .z),M,k9,F,F,⟨⟨hM.valid,hM.len,hM.vars,fun u hu=>by rw[hM.gq u hu];exact xy va (fun x hx=>by have:=hu x hx;unfold da;rw[Tl];exact this)⟩,hM.min⟩,H_⟩
end Go.Proofs.YtgdbfideeeegmaaGreatDoor

namespace Go.Proofs.YtgdbfideeeegmaaGreatDoor
open Go.Lx Go.RowKit _root_.Go.Proofs.Tryz
def H8 (a b:bU) (w:World) (k:Key) (r:SR):Prop:= ∃s l sb cc,GC a b (s,l)∧k=xx (s,l)∧r.a=vI (s:Int)∧r.b=.slice sb l.length cc∧((∃c2,r.ik=[am sb c2 3 1 (aX l)])∨(r.ik=[]∧Sl w sb (aX l)))
theorem rowAt {w1:World} {b:Option Addr} {c:Nat} {T:TypeId} {cs:List Value} {ik:List Lx.Item} (he:ik=[am b c T 1 cs]) (h: ∀it∈ik,it.P w1):Sl w1 b cs:=rowP.sl (h (am b c T 1 cs) (by rw[he];simp))
theorem H8.sl {a b:bU} {w w1:World} {sb:Option Addr} {l:List Nat} {ik:List Lx.Item} (hI:Inv w [] w1) (h:(∃c2,ik=[am sb c2 3 1 (aX l)])∨(ik=[]∧Sl w sb (aX l))) (dZ: ∀it∈ik,it.P w1):Sl w1 sb (aX l):=by
 rcases h with⟨c2,he⟩|⟨_,h⟩
 ·exact rowAt he dZ
 ·exact hI.sl h
theorem H8.one {a b:bU} {w:World} {k:Key} {r:SR} (h:H8 a b w k r):dS r.a=true∧dS r.b=true:=by
 obtain⟨s,l,sb,cc,_,_,h1,h2,_⟩:=h
 rw[h1,h2];exact⟨F,F⟩
set_option maxRecDepth 20000 in
theorem Ti (w:World) [cG Tryz.prog w] (a:bU) (ka:DK) (ha:At w a ka) (va:Valid a) (za:Nat) (rr:Sl w (aD za) (dC a ka)) (b:bU) (kb:DK) (hb:At w b kb) (vb:Valid b) (zb:Nat) (D3:Sl w (aD zb) (dC b kb)) (wF:a.vars=b.vars) (zf:Nat) (Th:Sl w (aD zf) [(.func (.func 153) #[] #[(cW (aD za) 0),(cW (aD zb) 0)])]) (w1:World) [cG Tryz.prog w1] (hI:Inv w [] w1) (k:Key) (r:SR) (hR:H8 a b w k r) (dZ: ∀it∈r.ik,it.P w1):dn Tryz.prog w1 (.func (.func 155) #[] #[]) [.agg #[r.a,r.b]] [] (fun v O'=>v=str k∧O'=[]):=by
 obtain⟨s,l,sb,cc,hG,rfl,e1,e2,hm⟩:=hR
 have hS:=H8.sl (a:=a) (b:=b) hI hm dZ
 have FG:=hG.len vb.n4
 rw[e1,e2]
 exact bQ (first:=[]) (args:=[.agg #[vI (s:Int),.slice sb l.length cc]]) (eY:=[]) Pr (LC w1 s (by have:=hG.s;have:=va.n4;omega) sb cc l hS (fun t ht=>by have:=hG.lt t ht;have:=vb.n4;omega) FG)
set_option maxRecDepth 20000 in
theorem Tj (w:World) [cG Tryz.prog w] (a:bU) (ka:DK) (ha:At w a ka) (va:Valid a) (za:Nat) (rr:Sl w (aD za) (dC a ka)) (b:bU) (kb:DK) (hb:At w b kb) (vb:Valid b) (zb:Nat) (D3:Sl w (aD zb) (dC b kb)) (wF:a.vars=b.vars) (zf:Nat) (Th:Sl w (aD zf) [(.func (.func 153) #[] #[(cW (aD za) 0),(cW (aD zb) 0)])]) (w1:World) [cG Tryz.prog w1] (hI:Inv w [] w1) (k:Key) (r:SR) (hR:H8 a b w k r) (dZ: ∀it∈r.ik,it.P w1) (x:Nat) (hx:x<da a):dn Tryz.prog w1 (.func (.func 156) #[] #[(cW (aD zf) 0),(cW (aD za) 0),(cW (aD zb) 0)]) [.agg #[r.a,r.b],.int .u8 (x:Int)] [] (fun v N=> ∃r',v=.agg #[r'.a,r'.b]∧N=r'.ik∧H8 a b w (zj (GC a b) xx (Gr a b) k x) r'):=by
 obtain⟨s,l,sb,cc,hG,rfl,e1,e2,hm⟩:=hR
 have hS:=H8.sl (a:=a) (b:=b) hI hm dZ
 have FG:=hG.len vb.n4
 rw[e1,e2]
 refine(bQ (first:=[]) (args:=[.agg #[vI (s:Int),.slice sb l.length cc],.int .u8 (x:Int)]) (eY:=[(cW (aD zf) 0),(cW (aD za) 0),(cW (aD zb) 0)]) Ps (H5 w1 a ka (hI.nN ha) va za (hI.sl rr) b kb (hI.nN hb) vb zb (hI.sl D3) wF zf (hI.sl Th) s hG.s sb cc l hS hG.Pt hG.lt x hx)).mono ?_
 rintro v O' ⟨b',c',c2,rfl,rfl⟩
 exact⟨⟨vI ((dY a s x:Nat):Int),.slice b' (tk a b (dY a s x) (eA b l x)).length c',[am b' c2 3 1 (aX (tk a b (dY a s x) (eA b l x)))]⟩,F,F,dY a s x,_,b',c',hG.next va.toVal vb.toVal hx,sw (D5 va vb) hG hx,F,F,.inl ⟨c2,F⟩⟩
set_option maxRecDepth 20000 in
theorem Tk (w:World) [cG Tryz.prog w] (a:bU) (ka:DK) (ha:At w a ka) (va:Valid a) (za:Nat) (rr:Sl w (aD za) (dC a ka)) (b:bU) (kb:DK) (hb:At w b kb) (vb:Valid b) (zb:Nat) (D3:Sl w (aD zb) (dC b kb)) (wF:a.vars=b.vars) (zf:Nat) (Th:Sl w (aD zf) [(.func (.func 153) #[] #[(cW (aD za) 0),(cW (aD zb) 0)])]) (w1:World) [cG Tryz.prog w1] (hI:Inv w [] w1) (k:Key) (r:SR) (hR:H8 a b w k r) (dZ: ∀it∈r.ik,it.P w1):dn Tryz.prog w1 (.func (.func 157) #[] #[(cW (aD zb) 0)]) [.agg #[r.a,r.b]] [] (fun v O'=>v=.bool (FH (GC a b) xx (Pq b) k)∧O'=[]):=by
 obtain⟨s,l,sb,cc,hG,rfl,e1,e2,hm⟩:=hR
 have hS:=H8.sl (a:=a) (b:=b) hI hm dZ
 have FG:=hG.len vb.n4
 rw[e1,e2]
 rw[yC (D5 va vb) hG]
 exact bQ (first:=[]) (args:=[.agg #[vI (s:Int),.slice sb l.length cc]]) (eY:=[(cW (aD zb) 0)]) Pu (LD w1 b kb (hI.nN hb) vb zb (hI.sl D3) s sb cc l hS hG.lt FG)
set_option maxRecDepth 20000 in
theorem Pv (w:World) [cG Tryz.prog w] (a:bU) (ka:DK) (ha:At w a ka) (va:Valid a) (za:Nat) (rr:Sl w (aD za) (dC a ka)) (b:bU) (kb:DK) (hb:At w b kb) (vb:Valid b) (zb:Nat) (D3:Sl w (aD zb) (dC b kb)):dn Tryz.prog w (.func (.func 153) #[] #[(cW (aD za) 0),(cW (aD zb) 0)]) [.agg #[vI a.start,nS]] [] (fun v N=> ∃sb sc Ki,v=.agg #[vI a.start,.slice sb (tk a b a.start.toNat []).length sc]∧N=[am sb Ki 3 1 (aX (tk a b a.start.toNat []))]):=by
 refine bQ (first:=[]) (args:=[.agg #[vI a.start,nS]]) (eY:=[(cW (aD za) 0),(cW (aD zb) 0)]) H7 (bm.dJ 3 1 ?_)
 have h9:=H3 w a ka ha va za rr b kb hb vb zb D3 a.start.toNat (dl va.toVal) none 0 0 [] List.Pairwise.nil (by simp)
 rw[Int.toNat_of_nonneg va.s0]at h9
 exact h9
theorem Pw (w:World) [cG Tryz.prog w] (cb:Nat) (eb:Option Addr) (en ec vs B:Nat) (dz:Sl w (aD cb) [.slice eb en ec,vI (vs:Int),vI (B:Int)]) (eT:vs≤6) (gn:1≤B) (hB:B≤4096) (a:bU) (ka:DK) (ha:At w a ka) (va:Valid a) (Tl:a.vars=(vs:Int)) (b:bU) (kb:DK) (hb:At w b kb) (vb:Valid b) (wF:a.vars=b.vars):
  cB Tryz.prog w (.iface 163 (.agg #[])) 108 [(cW (aD cb) 0),dV a ka,dV b kb] [] (fun v N=> ∃M k',v=dV M k'∧N=[dI 56 4 3 M k']∧eF (vs:Int) B M (ki (gq a) (gq b))∧yD a b (da a) B) (¬yD a b (da a) B):=by
 refine cJ func108 F ntmps108 F ?_
 refine ai (ak F (cH (cs:=(dC a ka)) F F (fun z1=>?_)))
 refine ak F (cH (cs:=(dC b kb)) F F (fun z2=>?_))
 refine ak F (aR aY F (fun z3=>?_))
 refine ae (ai (ad (dQ) (ak F (aR H9 F (fun z4=>?_)))))
 let eQ:Value:=(.func (.func 153) #[] #[(.pointer (aD z1)),(.pointer (aD z2))])
 refine ak F (a8 (vs:=[eQ]) 0 H9 F F F F ?_)
 refine ae (ai (ah F (ad (aQ 0 Nu F F F F) (ad (aN bW F aO F F) (ad (aQ 3 cS F F F F) (ad (bG (cs:=[(vI a.start),nS]) D4 fu (by kernel_rfl)) ?_))))))
 have AI:=(cD (O:=[oI z4 209 [eQ],oI z3 25 [(vI 0),(vI 0),nS,nS],oI z2 25 (dC b kb),oI z1 25 (dC a ka)]) fun w1 hI=>haveI:=di hI;(haveI:=di hI;Pv w1 a ka (hI.nN ha) va z1 (hI.iG (mG 3 F)) b kb (hI.nN hb) vb z2 (hI.iG (mG 2 F))))
 refine ak F (dx AI F F ?_)
 clear AI
 rintro vr O' ⟨N,rfl,sb,sc,Ki,rfl,rfl⟩
 refine ad (dQ) (ad (dQ) ?_)
 have Tm:=fun(w1:World) (hI:Inv w [am sb Ki 3 1 (aX (tk a b a.start.toNat [])),oI z4 209 [eQ],oI z3 25 [(vI 0),(vI 0),nS,nS],oI z2 25 (dC b kb),oI z1 25 (dC a ka)] w1)=>(haveI:=di hI;AD w1 cb eb en ec vs B (da a) (hI.sl dz) eT (by unfold da;rw[Tl];rfl) gn hB (zj (GC a b) xx (Gr a b)) (FH (GC a b) xx (Pq b)) (xx (LF a b)) (H8 a b w1) ⟨vI a.start,.slice sb (tk a b a.start.toNat []).length sc,[]⟩ (.func (.func 155) #[] #[]) (.func (.func 156) #[] #[(cW (aD z4) 0),(cW (aD z1) 0),(cW (aD z2) 0)]) (.func (.func 157) #[] #[(cW (aD z2) 0)]) ⟨a.start.toNat,tk a b a.start.toNat [],sb,sc,GC.start va.toVal vb.toVal,F,(show Value.int .i64 a.start=_ by rw[Int.toNat_of_nonneg va.s0]),F,.inr ⟨F,hI.fV (mG 0 F)⟩⟩ F (fun k r h=>h.one) (fun w2 k r nw hR dZ=>haveI:=di nw;Ti w1 a ka (hI.nN ha) va z1 (hI.iG (mG 4 F)) b kb (hI.nN hb) vb z2 (hI.iG (mG 3 F)) wF z4 (hI.iG (mG 1 F)) w2 nw k r hR dZ) (fun w2 k r x nw hR dZ hx=>haveI:=di nw;Tj w1 a ka (hI.nN ha) va z1 (hI.iG (mG 4 F)) b kb (hI.nN hb) vb z2 (hI.iG (mG 3 F)) wF z4 (hI.iG (mG 1 F)) w2 nw k r hR dZ x hx) (fun w2 k r nw hR dZ=>haveI:=di nw;Tk w1 a ka (hI.nN ha) va z1 (hI.iG (mG 4 F)) b kb (hI.nN hb) vb z2 (hI.iG (mG 3 F)) wF z4 (hI.iG (mG 1 F)) w2 nw k r hR dZ))
 refine de F (dA Px (cB.pure Tm) F (fun z _=>⟨F,z⟩) ?_)
 clear Tm
 rintro vr O' ⟨N,rfl,M,k9,rfl,rfl,hM,H_⟩
 refine ak F (a8 (vs:=(dC M k9)) 3 aY F F F F ?_)
 refine ae (aA (ap ?_))
 refine bL (i:=3) Tryz.results108 bW F aY F F F ?_
 exact⟨[dI 56 4 3 M k9],(by exact Sub.k .z),M,k9,F,F,⟨⟨hM.valid,hM.len,hM.vars,fun u hu=>by rw[hM.gq u hu];exact AJ va vb wF (fun x hx=>by have:=hu x hx;unfold da;rw[Tl];exact this)⟩,hM.min⟩,H_⟩
end Go.Proofs.YtgdbfideeeegmaaGreatDoor

namespace Go.Proofs.YtgdbfideeeegmaaGreatDoor
open Go.Lx Go.RowKit _root_.Go.Proofs.Tryz
abbrev qI (vs B:Nat) (t:Rx) (v:Value) (N:List Lx.Item):Prop:= ∃M k',v=dV M k'∧N=[dI 56 4 3 M k']∧eF (vs:Int) B M (gd t)∧iP vs t B
theorem CC (w:World) [cG Tryz.prog w] (cb:Nat) (eb:Option Addr) (en ec vs B:Nat) (dz:Sl w (aD cb) [.slice eb en ec,vI (vs:Int),vI (B:Int)]) (eT:vs≤6) (gn:1≤B) (hB:B≤4096) (e:List dF) (hE:Sl w eb (bg e)) (iA:en=e.length) (i:Nat) (hp:e[i]? =some ⟨2,0,0,0,0⟩):
  cB Tryz.prog w (.iface 163 (.agg #[])) 72 [(cW (aD cb) 0),vN i] [] (qI vs B Rx.empty) (¬iP vs Rx.empty B):=by
 refine cJ func72 F ntmps72 F ?_
 obtain⟨hi,_⟩:=gf hp
 refine ai (ak F (aR aY F (fun z1=>?_)))
 refine ae (ai (ah F (ad (aK F) (ad (br iR F fJ F F (ay dz) (by first|omega|(simp;done)|(simp;omega)|(simp_all;done)|(simp_all;omega))) (ad (cd cN F F (ay dz) F) (ah F (ad (cY (i:=i) cN bN F F (ay hE) (by omega) (by rw[bE];omega)) (ad (dy (vs:=[v8 2,v8 0,v8 0,vI 0,vI 0]) bs F bN F F (Nat.succ_pos _) (ay hE) (ew hp)) (ak F (aR bN F (fun z2=>?_)))))))))))
 refine ak F (a8 (vs:=[v8 2,v8 0,v8 0,vI 0,vI 0]) 0 bN F F F F ?_)
 refine ae (aB (ai (ad (aN bs F cI F F) (ad (aQ 0 eu F F F F) (ae (aG (ai (ad (aZ F F) (ad (aq (bt F) (decide_eq_false (by decide))) (ae (aL F (ai (ad (aZ F F) (ad (aq (bt F) (decide_eq_true (by decide))) ?_))))))))))))))
 refine ae ?_
 refine bj F ?_
 refine ai (ah F (ad (dh 0 bs F bN F F F) ?_))
 have AK:=fun(w1:World) (hI:Inv w [oI z2 72 [v8 2,v8 0,v8 0,vI 0,vI 0],oI z1 25 [(vI 0),(vI 0),nS,nS]] w1)=>(haveI:=di hI;Ii w1 cb eb en ec vs B (hI.sl dz) eT gn hB 0 2 0 0 0 0 (by omega) (by omega) (by omega))
 refine de F (dA Ik (cB.pure AK) F (fun z _=>⟨F,z⟩) ?_)
 clear AK
 rintro vr O' ⟨N,rfl,M,kr,rfl,rfl,CD,BV⟩
 refine ak F (a8 (vs:=(dC M kr)) 2 aY F F F F ?_)
 refine ae (aA (ap ?_))
 refine bL (i:=2) Tryz.results72 bW F aY F F F ?_
 exact⟨[dI 56 4 3 M kr],(by exact Sub.k .z),M,kr,F,F,CD,BV⟩
theorem AN (w:World) [cG Tryz.prog w] (cb:Nat) (eb:Option Addr) (en ec vs B:Nat) (dz:Sl w (aD cb) [.slice eb en ec,vI (vs:Int),vI (B:Int)]) (eT:vs≤6) (gn:1≤B) (hB:B≤4096) (e:List dF) (hE:Sl w eb (bg e)) (iA:en=e.length) (i:Nat) (p n:Nat) (KV:p<256) (nK:n<256) (hp:e[i]? =some ⟨3,p,n,0,0⟩):
  cB Tryz.prog w (.iface 163 (.agg #[])) 72 [(cW (aD cb) 0),vN i] [] (qI vs B (.letter p n)) (¬iP vs (.letter p n) B):=by
 refine cJ func72 F ntmps72 F ?_
 obtain⟨hi,_⟩:=gf hp
 refine ai (ak F (aR aY F (fun z1=>?_)))
 refine ae (ai (ah F (ad (aK F) (ad (br iR F fJ F F (ay dz) (by first|omega|(simp;done)|(simp;omega)|(simp_all;done)|(simp_all;omega))) (ad (cd cN F F (ay dz) F) (ah F (ad (cY (i:=i) cN bN F F (ay hE) (by omega) (by rw[bE];omega)) (ad (dy (vs:=[v8 3,v8 p,v8 n,vI 0,vI 0]) bs F bN F F (Nat.succ_pos _) (ay hE) (ew hp)) (ak F (aR bN F (fun z2=>?_)))))))))))
 refine ak F (a8 (vs:=[v8 3,v8 p,v8 n,vI 0,vI 0]) 0 bN F F F F ?_)
 refine ae (aB (ai (ad (aN bs F cI F F) (ad (aQ 0 eu F F F F) (ae (aG (ai (ad (aZ F F) (ad (aq (bt F) (decide_eq_false (by decide))) (ae (aL F (ai (ad (aZ F F) (ad (aq (bt F) (decide_eq_false (by decide))) ?_))))))))))))))
 refine ae (aL F (ai (ad (aZ F F) (ad (aq (bt F) (decide_eq_true (by decide))) (ae ?_)))))
 refine bj F ?_
 refine ai (ah F (ad (dh 0 bs F bN F F F) ?_))
 have u5:=fun(w1:World) (hI:Inv w [oI z2 72 [v8 3,v8 p,v8 n,vI 0,vI 0],oI z1 25 [(vI 0),(vI 0),nS,nS]] w1)=>(haveI:=di hI;Ii w1 cb eb en ec vs B (hI.sl dz) eT gn hB 1 3 p n 0 0 (by omega) (by omega) (by omega))
 refine de F (dA Ik (cB.pure u5) F (fun z _=>⟨F,z⟩) ?_)
 clear u5
 rintro vr O' ⟨N,rfl,M,kr,rfl,rfl,CD,BV⟩
 refine ak F (a8 (vs:=(dC M kr)) 2 aY F F F F ?_)
 refine ae (aA (ap ?_))
 refine bL (i:=2) Tryz.results72 bW F aY F F F ?_
 exact⟨[dI 56 4 3 M kr],(by exact Sub.k .z),M,kr,F,F,CD,BV⟩
theorem FK (w:World) [cG Tryz.prog w] (cb:Nat) (eb:Option Addr) (en ec vs B:Nat) (dz:Sl w (aD cb) [.slice eb en ec,vI (vs:Int),vI (B:Int)]) (eT:vs≤6) (gn:1≤B) (hB:B≤4096) (e:List dF) (hE:Sl w eb (bg e)) (iA:en=e.length) (i:Nat) (a:Rx) (j:Nat) (hp:e[i]? =some ⟨8,0,0,(j:Int),0⟩) (LL: ∀(w1:World) [cG Tryz.prog w1],Inv w [] w1→cB Tryz.prog w1 (.iface 163 (.agg #[])) 72 [(cW (aD cb) 0),vN j] [] (qI vs B a) (¬iP vs a B)):
  cB Tryz.prog w (.iface 163 (.agg #[])) 72 [(cW (aD cb) 0),vN i] [] (qI vs B (.star a)) (¬iP vs (.star a) B):=by
 refine cJ func72 F ntmps72 F ?_
 obtain⟨hi,_⟩:=gf hp
 refine ai (ak F (aR aY F (fun z1=>?_)))
 refine ae (ai (ah F (ad (aK F) (ad (br iR F fJ F F (ay dz) (by first|omega|(simp;done)|(simp;omega)|(simp_all;done)|(simp_all;omega))) (ad (cd cN F F (ay dz) F) (ah F (ad (cY (i:=i) cN bN F F (ay hE) (by omega) (by rw[bE];omega)) (ad (dy (vs:=[v8 8,v8 0,v8 0,vN j,vI 0]) bs F bN F F (Nat.succ_pos _) (ay hE) (ew hp)) (ak F (aR bN F (fun z2=>?_)))))))))))
 refine ak F (a8 (vs:=[v8 8,v8 0,v8 0,vN j,vI 0]) 0 bN F F F F ?_)
 refine ae (aB (ai (ad (aN bs F cI F F) (ad (aQ 0 eu F F F F) (ae (aG (ai (ad (aZ F F) (ad (aq (bt F) (decide_eq_false (by decide))) (ae (aL F (ai (ad (aZ F F) (ad (aq (bt F) (decide_eq_false (by decide))) ?_))))))))))))))
 refine ae (aL F (ai (ad (aZ F F) (ad (aq (bt F) (decide_eq_false (by decide))) (ae (aL F (ai (ad (aZ F F) (ad (aq (bt F) (decide_eq_false (by decide))) ?_)))))))))
 refine ae (aL F (ai (ad (aZ F F) (ad (aq (bt F) (decide_eq_true (by decide))) (ae ?_)))))
 refine bj F ?_
 refine ai (ah F (ah F (ad (aN bs F aO F F) (ad (aQ 0 cS F F F F) ?_))))
 have HE:=fun(w1:World) (hI:Inv w [oI z2 72 [v8 8,v8 0,v8 0,vN j,vI 0],oI z1 25 [(vI 0),(vI 0),nS,nS]] w1)=>(haveI:=di hI;LL w1 hI.kw)
 refine de F (dA nD (cB.pure HE) F (fun z _=>⟨F,fun h9=>z h9.1⟩) ?_)
 clear HE
 rintro vr O' ⟨N,rfl,MA,kA,rfl,rfl,oM,FL⟩
 have xz:=fD oM hB
 have Il:=fun(w1:World) (hI:Inv w [dI 56 4 3 MA kA,oI z2 72 [v8 8,v8 0,v8 0,vN j,vI 0],oI z1 25 [(vI 0),(vI 0),nS,nS]] w1)=>(haveI:=di hI;To w1 cb eb en ec vs B (hI.sl dz) eT gn hB MA kA (hI.at (k:=kA) (mG 0 F)) oM.valid oM.vars)
 refine de F (dA PJ (cB.pure Il) F (fun z _=>⟨F,fun h9=>z (by rw[xz];exact h9.2)⟩) ?_)
 clear Il
 rintro vr O' ⟨N,rfl,M,kr,rfl,rfl,PK,PL⟩
 have CD:eF (vs:Int) B M (gd (.star a)):=PK.to fun w9 h9=>tq (fun u hu=>oM.gq u hu) h9
 have BV:iP vs (.star a) B:=⟨FL,by rw[←xz];exact PL⟩
 refine ak F (a8 (vs:=(dC M kr)) 3 aY F F F F ?_)
 refine ae (aA (ap ?_))
 refine bL (i:=3) Tryz.results72 bW F aY F F F ?_
 exact⟨[dI 56 4 3 M kr],(by exact Sub.k .z),M,kr,F,F,CD,BV⟩
theorem Im (w:World) [cG Tryz.prog w] (cb:Nat) (eb:Option Addr) (en ec vs B:Nat) (dz:Sl w (aD cb) [.slice eb en ec,vI (vs:Int),vI (B:Int)]) (eT:vs≤6) (gn:1≤B) (hB:B≤4096) (e:List dF) (hE:Sl w eb (bg e)) (iA:en=e.length) (i:Nat) (a b:Rx) (j k:Nat) (hp:e[i]? =some ⟨4,0,0,(j:Int),(k:Int)⟩) (LL: ∀(w1:World) [cG Tryz.prog w1],Inv w [] w1→cB Tryz.prog w1 (.iface 163 (.agg #[])) 72 [(cW (aD cb) 0),vN j] [] (qI vs B a) (¬iP vs a B)) (Tt: ∀(w1:World) [cG Tryz.prog w1],Inv w [] w1→cB Tryz.prog w1 (.iface 163 (.agg #[])) 72 [(cW (aD cb) 0),vN k] [] (qI vs B b) (¬iP vs b B)):
  cB Tryz.prog w (.iface 163 (.agg #[])) 72 [(cW (aD cb) 0),vN i] [] (qI vs B (.jl a b)) (¬iP vs (.jl a b) B):=by
 refine cJ func72 F ntmps72 F ?_
 obtain⟨hi,_⟩:=gf hp
 refine ai (ak F (aR aY F (fun z1=>?_)))
 refine ae (ai (ah F (ad (aK F) (ad (br iR F fJ F F (ay dz) (by first|omega|(simp;done)|(simp;omega)|(simp_all;done)|(simp_all;omega))) (ad (cd cN F F (ay dz) F) (ah F (ad (cY (i:=i) cN bN F F (ay hE) (by omega) (by rw[bE];omega)) (ad (dy (vs:=[v8 4,v8 0,v8 0,vN j,vN k]) bs F bN F F (Nat.succ_pos _) (ay hE) (ew hp)) (ak F (aR bN F (fun z2=>?_)))))))))))
 refine ak F (a8 (vs:=[v8 4,v8 0,v8 0,vN j,vN k]) 0 bN F F F F ?_)
 refine ae (aB (ai (ad (aN bs F cI F F) (ad (aQ 0 eu F F F F) (ae (aG (ai (ad (aZ F F) (ad (aq (bt F) (decide_eq_false (by decide))) (ae (aL F (ai (ad (aZ F F) (ad (aq (bt F) (decide_eq_false (by decide))) ?_))))))))))))))
 refine ae (aL F (ai (ad (aZ F F) (ad (aq (bt F) (decide_eq_false (by decide))) (ae (aL F (ai (ad (aZ F F) (ad (aq (bt F) (decide_eq_false (by decide))) ?_)))))))))
 refine ae (aL F (ai (ad (aZ F F) (ad (aq (bt F) (decide_eq_false (by decide))) (ae (aL F (ai (ad (aZ F F) (ad (aq (bt F) (decide_eq_false (by decide))) ?_)))))))))
 refine ae (aL F (ai (ad (aZ F F) (ad (aq (bt F) (decide_eq_false (by decide))) (ae (aL F (av (aB ?_))))))))
 refine eD [(0,0),(1,0),(2,0),(3,0),(5,0),(6,0),(7,0),(4,1),(8,1),(9,2),(10,2)] ?_
 refine ao F (az F) (ao F (az F) (ao F (aN bs F aO F F) (ao F (aQ 0 cS F F F F) (ao F (az F) (ao F (aN bs F aO F F) (ao F (aQ 0 cS F F F F) ?_))))))
 have Tu:=fun(w1:World) (hI:Inv w [oI z2 72 [v8 4,v8 0,v8 0,vN j,vN k],oI z1 25 [(vI 0),(vI 0),nS,nS]] w1)=>(haveI:=di hI;LL w1 hI.kw)
 refine fS F F (dA nD (cB.pure Tu) F (fun z _=>⟨F,fun h9=>z h9.1⟩) ?_)
 clear Tu
 rintro vr O' ⟨N,rfl,MA,kA,rfl,rfl,oM,FL⟩
 refine⟨by exact Sub.d (.k (.k .z)),?_⟩
 have xz:=fD oM hB
 have Tv:=fun(w1:World) (hI:Inv w [dI 56 4 3 MA kA,oI z2 72 [v8 4,v8 0,v8 0,vN j,vN k],oI z1 25 [(vI 0),(vI 0),nS,nS]] w1)=>(haveI:=di hI;Tt w1 hI.kw)
 refine fS F F (dA nD (cB.pure Tv) F (fun z _=>⟨F,fun h9=>z h9.2.1⟩) ?_)
 clear Tv
 rintro vr O' ⟨N,rfl,MB,kB,rfl,rfl,vl,FM⟩
 refine⟨by exact Sub.d (.d (.k (.k .z))),?_⟩
 have Nz:=fD vl hB
 have Io:=fun(w1:World) (hI:Inv w [dI 56 4 3 MB kB,dI 56 4 3 MA kA,oI z2 72 [v8 4,v8 0,v8 0,vN j,vN k],oI z1 25 [(vI 0),(vI 0),nS,nS]] w1)=>(haveI:=di hI;Pw w1 cb eb en ec vs B (hI.sl dz) eT gn hB MA kA (hI.at (k:=kA) (mG 1 F)) oM.valid oM.vars MB kB (hI.at (k:=kB) (mG 0 F)) vl.valid (by rw[oM.vars,vl.vars]))
 refine qp F F (dA CE (cB.pure Io) F (fun z _=>⟨F,fun h9=>z (by rw[xz,Nz];exact h9.2.2)⟩) ?_)
 clear Io
 rintro vr O' ⟨N,rfl,M,kr,rfl,rfl,PK,PL⟩
 have CD:eF (vs:Int) B M (gd (.jl a b)):=PK.to fun w9 h9=>nk (fun u hu=>oM.gq u hu) (fun u hu=>vl.gq u hu) h9
 have BV:iP vs (.jl a b) B:=⟨FL,FM,by rw[←xz,←Nz];exact PL⟩
 refine bq F F (a8 (vs:=(dC M kr)) 4 aY F F F F ?_)
 refine bw ?_
 refine aA (ap ?_)
 refine bL (i:=4) Tryz.results72 bW F aY F F F ?_
 exact⟨[dI 56 4 3 M kr],(by exact Sub.k .z),M,kr,F,F,CD,BV⟩
structure PM (cb:Nat) (eb:Option Addr) (en ec vs B:Nat) (e:List dF):Prop where
 nn: ∀(w:World) [cG Tryz.prog w],vs≤6→1≤B→B≤4096→Sl w (aD cb) [.slice eb en ec,vI (vs:Int),vI (B:Int)]→Sl w eb (bg e)→ ∀(i:Nat),e[i]? =some ⟨1,0,0,0,0⟩→cB Tryz.prog w (.iface 163 (.agg #[])) 72 [(cW (aD cb) 0),vN i] [] (qI vs B Rx.none) (¬iP vs Rx.none B)
 nt: ∀(w:World) [cG Tryz.prog w],vs≤6→1≤B→B≤4096→Sl w (aD cb) [.slice eb en ec,vI (vs:Int),vI (B:Int)]→Sl w eb (bg e)→ ∀(i:Nat) (a:Rx) (j:Nat),e[i]? =some ⟨7,0,0,(j:Int),0⟩→(∀(w1:World) [cG Tryz.prog w1],Inv w [] w1→cB Tryz.prog w1 (.iface 163 (.agg #[])) 72 [(cW (aD cb) 0),vN j] [] (qI vs B a) (¬iP vs a B))→cB Tryz.prog w (.iface 163 (.agg #[])) 72 [(cW (aD cb) 0),vN i] [] (qI vs B (.not a)) (¬iP vs (.not a) B)
 al: ∀(w:World) [cG Tryz.prog w],vs≤6→1≤B→B≤4096→Sl w (aD cb) [.slice eb en ec,vI (vs:Int),vI (B:Int)]→Sl w eb (bg e)→ ∀(i:Nat) (a b:Rx) (j k:Nat),e[i]? =some ⟨5,0,0,(j:Int),(k:Int)⟩→(∀(w1:World) [cG Tryz.prog w1],Inv w [] w1→cB Tryz.prog w1 (.iface 163 (.agg #[])) 72 [(cW (aD cb) 0),vN j] [] (qI vs B a) (¬iP vs a B))→(∀(w1:World) [cG Tryz.prog w1],Inv w [] w1→cB Tryz.prog w1 (.iface 163 (.agg #[])) 72 [(cW (aD cb) 0),vN k] [] (qI vs B b) (¬iP vs b B))→cB Tryz.prog w (.iface 163 (.agg #[])) 72 [(cW (aD cb) 0),vN i] [] (qI vs B (.j5 a b)) (¬iP vs (.j5 a b) B)
 an: ∀(w:World) [cG Tryz.prog w],vs≤6→1≤B→B≤4096→Sl w (aD cb) [.slice eb en ec,vI (vs:Int),vI (B:Int)]→Sl w eb (bg e)→ ∀(i:Nat) (a b:Rx) (j k:Nat),e[i]? =some ⟨6,0,0,(j:Int),(k:Int)⟩→(∀(w1:World) [cG Tryz.prog w1],Inv w [] w1→cB Tryz.prog w1 (.iface 163 (.agg #[])) 72 [(cW (aD cb) 0),vN j] [] (qI vs B a) (¬iP vs a B))→(∀(w1:World) [cG Tryz.prog w1],Inv w [] w1→cB Tryz.prog w1 (.iface 163 (.agg #[])) 72 [(cW (aD cb) 0),vN k] [] (qI vs B b) (¬iP vs b B))→cB Tryz.prog w (.iface 163 (.agg #[])) 72 [(cW (aD cb) 0),vN i] [] (qI vs B (.and a b)) (¬iP vs (.and a b) B)
def CF (e:List dF):Bool:=e.all fun x=>!(x.op==1||x.op==5||x.op==6||x.op==7||x.op==10)
theorem kQ {e:List dF} (h:CF e=true) {i:Nat} {x:dF} (hx:e[i]? =some x):x.op≠1∧x.op≠5∧x.op≠6∧x.op≠7∧x.op≠10:=by
 have:=List.all_eq_true.1 h _ (List.mem_of_getElem? hx)
 simpa[and_assoc]using this
theorem yF {cb:Nat} {eb:Option Addr} {en ec vs B:Nat} {e:List dF} (h:CF e=true):PM cb eb en ec vs B e:=
 ⟨fun _ _ _ _ _ _ _ i hp=>absurd F (kQ h hp).1,fun _ _ _ _ _ _ _ i _ _ hp=>absurd F (kQ h hp).2.2.2.1,fun _ _ _ _ _ _ _ i _ _ _ _ hp=>absurd F (kQ h hp).2.1,fun _ _ _ _ _ _ _ i _ _ _ _ hp=>absurd F (kQ h hp).2.2.1⟩
theorem ig {cb:Nat} {eb:Option Addr} {en ec vs B:Nat} {e:List dF} (D6:PM cb eb en ec vs B e) (eT:vs≤6) (gn:1≤B) (hB:B≤4096) (iA:en=e.length): ∀(t:Rx) (hp:t.plain=true) (i:Nat),BW e t i→ ∀(w:World) [cG Tryz.prog w],Sl w (aD cb) [.slice eb en ec,vI (vs:Int),vI (B:Int)]→Sl w eb (bg e)→cB Tryz.prog w (.iface 163 (.agg #[])) 72 [(cW (aD cb) 0),vN i] [] (qI vs B t) (¬iP vs t B)
 | .none,hp,i,h,w,_,dz,hE=>D6.nn w eT gn hB dz hE i h
 | .empty,hp,i,h,w,_,dz,hE=>CC w cb eb en ec vs B dz eT gn hB e hE iA i h
 | .letter p n,hp,i,⟨h,h1,h2⟩,w,_,dz,hE=>AN w cb eb en ec vs B dz eT gn hB e hE iA i p n h1 h2 h
 | .not a,hp,i,⟨j,h,ha⟩,w,_,dz,hE=>D6.nt w eT gn hB dz hE i a j h (fun w1 _ hI=>ig D6 eT gn hB iA a (by simp only[Rx.plain,Bool.and_eq_true]at hp;exact hp) _ ha w1 (hI.sl dz) (hI.sl hE))
 | .star a,hp,i,⟨j,h,ha⟩,w,_,dz,hE=>FK w cb eb en ec vs B dz eT gn hB e hE iA i a j h (fun w1 _ hI=>ig D6 eT gn hB iA a (by simp only[Rx.plain,Bool.and_eq_true]at hp;exact hp) _ ha w1 (hI.sl dz) (hI.sl hE))
 | .jl a b,hp,i,⟨j,k,h,ha,hb⟩,w,_,dz,hE=>Im w cb eb en ec vs B dz eT gn hB e hE iA i a b j k h (fun w1 _ hI=>ig D6 eT gn hB iA a (by simp only[Rx.plain,Bool.and_eq_true]at hp;exact hp.1) _ ha w1 (hI.sl dz) (hI.sl hE)) (fun w1 _ hI=>ig D6 eT gn hB iA b (by simp only[Rx.plain,Bool.and_eq_true]at hp;exact hp.2) _ hb w1 (hI.sl dz) (hI.sl hE))
 | .j5 a b,hp,i,⟨j,k,h,ha,hb⟩,w,_,dz,hE=>D6.al w eT gn hB dz hE i a b j k h (fun w1 _ hI=>ig D6 eT gn hB iA a (by simp only[Rx.plain,Bool.and_eq_true]at hp;exact hp.1) _ ha w1 (hI.sl dz) (hI.sl hE)) (fun w1 _ hI=>ig D6 eT gn hB iA b (by simp only[Rx.plain,Bool.and_eq_true]at hp;exact hp.2) _ hb w1 (hI.sl dz) (hI.sl hE))
 | .and a b,hp,i,⟨j,k,h,ha,hb⟩,w,_,dz,hE=>D6.an w eT gn hB dz hE i a b j k h (fun w1 _ hI=>ig D6 eT gn hB iA a (by simp only[Rx.plain,Bool.and_eq_true]at hp;exact hp.1) _ ha w1 (hI.sl dz) (hI.sl hE)) (fun w1 _ hI=>ig D6 eT gn hB iA b (by simp only[Rx.plain,Bool.and_eq_true]at hp;exact hp.2) _ hb w1 (hI.sl dz) (hI.sl hE))
 | .ahead a,hp,_,_,_,_,_,_=>absurd hp (by simp[Rx.plain])
 | .behind a,hp,_,_,_,_,_,_=>absurd hp (by simp[Rx.plain])
end Go.Proofs.YtgdbfideeeegmaaGreatDoor


/- Contracts of functions of the program, and what they answer. Conditions: those each theorem names. -/
import Derived.Test.YtgdbfideeeegmaaGreatDoorA2
import Derived.Test.YtgdbfideeeegmaaGreatDoorB4
import Derived.Test.YtgdbfideeeegmaaGreatDoorB2
import Derived.Test.YtgdbfideeeegmaaGreatDoorB3
import Derived.Test.YtgdbfideeeegmaaGreatDoorA6
import Derived.Test.YtgdbfideeeegmaaGreatDoorA3
import Derived.Test.YtgdbfideeeegmaaGreatDoorA5
set_option linter.unusedSectionVars false
set_option linter.unusedSimpArgs false
set_option linter.unusedVariables false
set_option linter.unnecessarySimpa false
set_option maxHeartbeats 8000000
set_option maxRecDepth 20000
namespace Go.Proofs.YtgdbfideeeegmaaGreatDoor
open Go.Lx Go.RowKit _root_.Go.Proofs.Tryz
theorem Se (w:World) [cG Tryz.prog w] (d:bU) (k:DK) (h:At w d k) (hv:Valid d) (hn:d.next.length<10000) {M:bU} (hM:gJ d=M):
  bI Tryz.prog 14 [(dV d k)] w (fun v N=> ∃b c,v=.tuple #[.slice b (Ho M).length c,vN (KQ M)]∧N=[am b c 72 5 (bg (Ho M))]):=by
 refine aw func14 F ntmps14 F ?_
 have Fy:Valid M:=by rw[←hM];exact mP hv
 have Wn:=Fy.n4
 have Oy:=Fy.n0
 have hL:da M≤64:=Nat.pow_le_pow_right (by decide) (show M.vars.toNat≤6 by have:=Fy.v6;have:=Fy.v0;omega)
 have KS:da M≤256:=by omega
 refine ai (ak F (cH (cs:=(dC d k)) F F (fun z1=>?_)))
 refine aj F (aj F (ae (ai (ad (dh 0 bW F aY F F F) (ak F (aP xo (aI fun w1 hI=>(haveI:=di hI;xp w1 d k (hI.nN h) hv hn hM)) F ?_))))))
 rintro vr O' ⟨N,rfl,k2,rfl,rfl⟩
 refine ah F (ad (aV (vs:=_) F F) (ad (aV (vs:=_) F F) (ak F (aR aY F (fun z2=>?_)))))
 refine ak F (a8 (vs:=(dC M k2)) 0 aY F F F F ?_)
 refine aj F (ae (aB (ai (ah F (ad (aq (cT F F) (decide_eq_false (by decide))) (ae (aL F (av (aB ?_)))))))))
 let mM:Lx.Item:=oI z2 25 (dC M k2)
 refine ck (O':=[dI 56 4 3 M k2,mM]) (by exact Sub.dr [mM] _ (.k .z)) ?_
 refine Cg (fun xq=>?_)
 let il:Lx.Item:=am k2.fb k2.fc 4 1 (bf M.ax)
 let iL:Lx.Item:=am k2.nb k2.nc 56 1 (bO k2.qs)
 refine ck (O':=([iL,il,mM]++a_ 3 k2.qs)) (by exact eW [iL,il] _ (a_ 3 k2.qs)) ?_
 have DG:=Hq xq
 refine aJ (ad (aN bW F dM F F) (ad (aQ 2 du F F F F) (ad (bS du F) (aj F (ae (ai (ad (bG (cs:=[.int .u8 1,(.int .u8 0),(.int .u8 0),(vI 0),(vI 0)]) k_ bN (by kernel_rfl)) (ak F (aP Ac (aI fun w1 hI=>(haveI:=di hI;uY w1 1 ⟨1,0,0,0,0⟩)) F ?_)))))))))
 rintro vr O' ⟨N,rfl,q0,c0,rfl,rfl,wQ,Aj⟩
 have ow:eJ q0 c0.r:=Aj.elim id (fun h=>absurd h (by simp))
 refine cQ (O':=([iL,il,mM]++((cq 72 q0)++(a_ 3 k2.qs)))) (by exact eg [] _ (cq 72 q0) (a_ 3 k2.qs)) ?_
 refine ak F (aR cg F (fun z3=>?_))
 refine ak F (a8 (vs:=c0.cells) 0 cg F F F F ?_)
 refine ae (ai (ah F (ak F (bX (m:=M.next.length) u0 mq F F (by omega) (by omega) (fun z4=>?_)))))
 refine aj F (ae (aB (ai (ad (aN bW F dM F F) (ad (aQ 4 du F F F F) (ad (bS du F) (ah F (ae (aG ?_)))))))))
 let pj:Lx.Item:=oI z3 69 c0.cells
 let sj:Value:=(.slice (aD z4) M.next.length M.next.length)
 let Ak:Value:=(.pointer (aD z1))
 let KT:Value:=(.slice k2.nb M.next.length k2.nc)
 let Cp:Value:=(.pointer (aD z2))
 let Cq:Value:=(.pointer (aD z3))
 refine cM (fun(R:List MR) ρ O=> ∃(p:List ER),O=([am (aD z4) M.next.length 75 1 (gA R M.next.length),pj,iL,il,mM]++(cq 72 p++(dt 69 R++a_ 3 k2.qs)))∧R.length≤M.next.length∧nJ R p M.next.length (ke M 0)∧eJ p c0.r∧cw [(0,(dV d k)),(1,Ak),(2,nS),(3,vI 0),(4,Cp),(5,vI 0),(6,vI (M.next.length:Int)),(7,Cq),(8,sj),(38,KT),(39,vI (M.next.length:Int)),(40,vN R.length)] ρ) (fun R=>M.next.length-R.length) [] ?_ ?_
 ·exact⟨q0,by unfold gA ja;rfl,Nat.zero_le _,.nil,ow,(.of F)⟩
 rintro R ρ O ⟨p,rfl,hs,hR,ow,hH⟩
 obtain⟨fE,rfl⟩:=hH.elim
 clear hH
 have aaD:ek c0.pp:=by rw[wQ];exact uZ
 refine ai (ad (bT F F) (ae (aB (aC F (fun hc=>?_) (fun hc=>?_)))))
 ·have u3:R.length<M.next.length:=by omega
  have pE:R.length<k2.qs.length:=by omega
  refine av (aB (aG (ai (ah F (ad (cV (i:=R.length) du bV F F (cP (mG 2 F)) u3 (by rw[List.length_map];exact pE)) (ad (cd bK F F (cP (mG 2 F)) (Hr pE)) (aj F (aj F (ae (ai (ah F (ah F (ae (aG (T.dJ 69 2 ?_)))))))))))))))
  let Al:Value:=(.slice k2.qs[R.length].b k2.qs[R.length].xs.length k2.qs[R.length].c)
  refine cM (fun(l:List PR) ρ O=> ∃(p2:List ER) (cb:Option Addr) (cc:Nat),O=([am cb cc 69 2 (dp l),am (aD z4) M.next.length 75 1 (gA (R++[⟨cb,cc,l⟩]) M.next.length),pj,iL,il,mM]++(cq 72 p2++(dt 69 R++a_ 3 k2.qs)))∧l.length≤M.next.length∧tS l p2 (ke M 0 R.length)∧nJ R p2 M.next.length (ke M 0)∧eJ p2 c0.r∧cw [(0,(dV d k)),(1,Ak),(2,nS),(3,vI 0),(4,Cp),(5,vI 0),(6,vI (M.next.length:Int)),(7,Cq),(8,sj),(9,vN R.length),(10,Al),(38,KT),(39,vI (M.next.length:Int)),(40,vN R.length),(45,vI (M.next.length:Int)),(46,vN l.length)] ρ) (fun l=>M.next.length-l.length) [] ?_ ?_
  ·exact⟨p,none,0,by rw[Af u3];rfl,Nat.zero_le _,.nil,hR,ow,(.of F)⟩
  rintro l ρ O ⟨p2,cb,cc,rfl,ht,hl,rR,ow,hH⟩
  obtain⟨fE,rfl⟩:=hH.elim
  clear hH
  refine ai (ad (bT F F) (ae (aB (aC F (fun hc=>?_) (fun hc=>?_)))))
  ·have lL:l.length<M.next.length:=by omega
   refine av (aB (aG (ai (ah F (aj F (ae (ai (ad (dh 2 eG F cg F F F) (ak F (aR cg F (fun z5=>?_)))))))))))
   refine ak F (a8 (vs:=c0.cells) 0 cg F F F F ?_)
   refine ae ?_
   let pN:Lx.Item:=am (aD z4) M.next.length 75 1 (gA (R++[⟨cb,cc,l⟩]) M.next.length)
   let yj:Lx.Item:=am cb cc 69 2 (dp l)
   refine e7 (fun ρ O=> ∃(p3:List ER) (pc:PR),Sub ([oI z5 69 pc.cells,yj,pN,pj,iL,il,mM]++(cq 72 p3++(dt 69 R++a_ 3 k2.qs))) O∧pc.pp=Fx M R.length l.length 0∧eJ p3 pc.r∧(∀y∈p2,y∈p3)∧cw [(0,(dV d k)),(1,Ak),(2,nS),(3,vI 0),(4,Cp),(5,vI 0),(6,vI (M.next.length:Int)),(7,Cq),(8,sj),(9,vN R.length),(10,Al),(11,vN l.length),(12,(.pointer (aD z5))),(38,KT),(39,vI (M.next.length:Int)),(40,vN R.length),(45,vI (M.next.length:Int)),(46,vN l.length)] ρ) ?_ ?_
   ·refine aB ?_
    refine aJ (ah F (ah F (ad (aZ F F) (ae (aC F (fun hc=>?_) (fun hc=>?_))))))
    ·have MN:R.length=l.length:=by omega
     refine aJ (ad (bG (cs:=[.int .u8 2,(.int .u8 0),(.int .u8 0),(vI 0),(vI 0)]) k_ bN (by kernel_rfl)) (ak F (aP Ac (aI fun w1 hI=>(haveI:=di hI;uY w1 2 ⟨2,0,0,0,0⟩)) F ?_)))
     rintro vr O' ⟨N,rfl,q1,c1,rfl,rfl,ww,Aj⟩
     have KU:eJ (q1++p2) c1.r:=s6 Aj (fun x hx=>by simp at hx)
     refine cQ (O':=([oI z5 69 c0.cells,yj,pN,pj,iL,il,mM]++((cq 72 q1)++(cq 72 p2++(dt 69 R++a_ 3 k2.qs))))) (by exact eg [] _ (cq 72 q1) (cq 72 p2++(dt 69 R++a_ 3 k2.qs))) ?_
     refine ak F (a8 (vs:=c1.cells) 0 cg F F F F ?_)
     refine ae ?_
     exact⟨(q1++p2),c1,(by rw[oq,List.append_assoc];exact Sub.rf),by rw[ww];unfold Fx;rw[if_pos (by omega)];rfl,KU,fun y hy=>List.mem_append_right _ hy,(.of F)⟩
    have Dn: ¬R.length=l.length:=by omega
    refine av ?_
    exact⟨p2,c0,(by exact Sub.rf),by rw[wQ];unfold Fx;rw[if_neg (by omega)];rfl,ow,fun y hy=>hy,(.of F)⟩
   rintro ρ O ⟨p3,pc,hS,BN,Wo,KV,hH⟩
   obtain⟨fE,rfl⟩:=hH.elim
   clear hH
   refine ck hS ?_
   refine aB (ai (ah F (ad (a7 (bS bK F) (v':=vN (da M)) (by rw[yi xq Fy.toVal pE])) (ah F (ae (aG ?_))))))
   refine cM (fun(x:Nat) ρ O=> ∃(p4:List ER) (pd:PR),O=([oI z5 69 pd.cells,yj,pN,pj,iL,il,mM]++(cq 72 p4++(dt 69 R++a_ 3 k2.qs)))∧x≤da M∧pd.pp=Fx M R.length l.length x∧eJ p4 pd.r∧(∀y∈p2,y∈p4)∧cw [(0,(dV d k)),(1,Ak),(2,nS),(3,vI 0),(4,Cp),(5,vI 0),(6,vI (M.next.length:Int)),(7,Cq),(8,sj),(9,vN R.length),(10,Al),(11,vN l.length),(12,(.pointer (aD z5))),(38,KT),(39,vI (M.next.length:Int)),(40,vN R.length),(45,vI (M.next.length:Int)),(46,vN l.length),(55,Al),(56,vN (da M)),(57,vN x)] ρ) (fun x=>da M-x) 0 ?_ ?_
   ·exact⟨p3,pc,F,Nat.zero_le _,BN,Wo,KV,(.of F)⟩
   rintro x ρ O ⟨p4,pd,rfl,hx,KW,Fz,Ht,hH⟩
   obtain⟨fE,rfl⟩:=hH.elim
   clear hH
   refine ai (ad (bT F F) (ae (aB (aC F (fun hc=>?_) (fun hc=>?_)))))
   ·have DH:x<da M:=by omega
    refine av (aB (aG (ai (ah F (ad (cV (i:=x) bK aO F F (cP (List.mem_append_right _ (List.mem_append_right _ (List.mem_append_right _ ((Hs pE)))))) (by rw[yi xq Fy.toVal pE];exact DH) (by rw[List.length_map,yi xq Fy.toVal pE];exact DH)) (ad (cd cS F F (cP (List.mem_append_right _ (List.mem_append_right _ (List.mem_append_right _ ((Hs pE)))))) (Sd xq Fy.toVal pE DH)) (aj F (aj F (ae (ai (ah F (ah F (ad (aZ F F) (ae (aC F (fun hc=>?_) (fun hc=>?_))))))))))))))))
    ·have YR:dY M R.length x=l.length:=by omega
     refine eD [(0,0),(1,0),(2,0),(3,0),(4,0),(5,0),(6,0),(7,0),(8,0),(9,0),(10,1),(11,2),(12,2)] ?_
     refine ao F (dh 0 eG F cg F F F) (ao F (az F) (ao F (et cS eu F (by first|rfl|exact fz ⟨by omega,by omega⟩|exact ny (by omega)|exact lF (by omega))) (ao F (az F) (ao F (a7 (bS bK F) (v':=vN (da M)) (by rw[yi xq Fy.toVal pE])) (ao F (qh (a:=(da M)) (b:=1) F F (by omega) (by omega)) (ao F (az F) (ao F (qh (a:=((da M)-1)) (b:=x) F F (by omega) (by omega)) (ao F (et cS eu F (by first|rfl|exact fz ⟨by omega,by omega⟩|exact ny (by omega)|exact lF (by omega))) (ao F (bG (cs:=[.int .u8 3,v8 x,v8 (((da M)-1)-x),(vI 0),(vI 0)]) k_ bN (by kernel_rfl)) ?_)))))))))
     refine bo F F (aP Ac (aI fun w1 hI=>(haveI:=di hI;uY w1 0 ⟨3,x,da M-1-x,0,0⟩)) F ?_)
     rintro vr O' ⟨N,rfl,q2,c2,rfl,rfl,pO,Aj⟩
     refine⟨k8 _ (by exact Sub.rf),?_⟩
     have Hu:eJ (q2++p4) c2.r:=s6 Aj (fun x hx=>by simp at hx)
     have Fz:=Fz.mono (fun y hy=>List.mem_append_right q2 hy)
     have Wp:ek pd.pp:=by rw[KW];exact q8 KS _ _ _ hx
     have KX:ek c2.pp:=by rw[pO];exact Ad DH KS
     let Sf:List Lx.Item:=[oI z5 69 pd.cells,yj,pN,pj,iL,il,mM]
     refine dL (O':=(Sf++((cq 72 q2)++(cq 72 p4++(dt 69 R++a_ 3 k2.qs))))) (by exact eg [] _ (cq 72 q2) (cq 72 p4++(dt 69 R++a_ 3 k2.qs))) ?_
     refine bq F F (aP Hv (aI fun w1 hI=>(haveI:=di hI;OQ w1 pd c2 (eJ.sl (T:=72) hI (jr (fun it dZ=>List.mem_append_right _ (List.mem_append_left _ dZ)) (fun it dZ=>List.mem_append_right _ (List.mem_append_right _ (List.mem_append_left _ dZ)))) Fz) Wp (eJ.sl (T:=72) hI (jr (fun it dZ=>List.mem_append_right _ (List.mem_append_left _ dZ)) (fun it dZ=>List.mem_append_right _ (List.mem_append_right _ (List.mem_append_left _ dZ)))) Hu) KX)) F ?_)
     rintro vr O' ⟨N,rfl,q3,c3,rfl,rfl,Vq,Aj⟩
     have KY:eJ (q3++(q2++p4)) c3.r:=s6 Aj (fun x hx=>by simp only[List.mem_cons,List.not_mem_nil,or_false]at hx;rcases hx with rfl|rfl;exact Fz;exact Hu)
     
     refine dL (O':=(Sf++((cq 72 q3)++((cq 72 q2)++(cq 72 p4++(dt 69 R++a_ 3 k2.qs)))))) (by exact eg [] _ (cq 72 q3) ((cq 72 q2)++(cq 72 p4++(dt 69 R++a_ 3 k2.qs)))) ?_
     refine bq F F (a8 (vs:=c3.cells) 0 cg F F F F ?_)
     refine dL (O':=([oI z5 69 c3.cells,yj,pN,pj,iL,il,mM]++(cq 72 (q3++(q2++p4))++(dt 69 R++a_ 3 k2.qs)))) (by simp only[oq,List.append_assoc];exact Sub.rf) ?_
     refine bw ?_
     refine aJ (ad (cx (a:=x) (b:=1) F F (by omega)) (ah F (ae ?_)))
     have e9:c3.pp=Fx M R.length l.length (x+1):=by rw[Vq,pO,KW,Fx,if_pos (by omega)];rfl
     exact⟨x+1,by omega,[oI z5 69 c3.cells,yj,pN,pj,iL,il,mM]++(cq 72 (q3++(q2++p4))++(dt 69 R++a_ 3 k2.qs)),(by exact Sub.rf),(q3++(q2++p4)),c3,F,by omega,e9,KY,fun y hy=>List.mem_append_right _ (List.mem_append_right _ (Ht y hy)),(.of F)⟩
    have YS: ¬dY M R.length x=l.length:=by omega
    refine av (aJ (ad (cx (a:=x) (b:=1) F F (by omega)) (ah F (ae ?_))))
    exact⟨x+1,by omega,[oI z5 69 pd.cells,yj,pN,pj,iL,il,mM]++(cq 72 p4++(dt 69 R++a_ 3 k2.qs)),(by exact Sub.rf),p4,pd,F,by omega,by unfold Fx;rw[if_neg (by omega)];exact KW,Fz,Ht,(.of F)⟩
   have YT: ¬x<da M:=by omega
   refine bJ ?_
   refine T.ds ([oI z5 69 pd.cells,pN,pj,iL,il,mM]++(cq 72 p4++(dt 69 R++a_ 3 k2.qs))) [(0,0),(1,0),(2,0),(3,0),(4,0),(5,0),(6,0),(7,1),(8,1),(9,0),(10,2)] (by exact Sub.k (.d (.k (.k (.k (.k (.k .rf))))))) ?_
   refine ao F (az F) (ao F (az F) (ao F (az F) (ao F (az F) (ao F (cV (i:=R.length) u0 mq F F (cP (mG 1 F)) u3 (by rw[kg (by simp;omega)];exact u3)) (ao F (cd j_ F F (cP (mG 1 F)) (Ah (by omega) ⟨cb,cc,l⟩)) (ao F (dh 0 eG F cg F F F) ?_))))))
   refine bo F F (bH (m:=1) (parts:=[(0,_)]) (cs:=pd.cells) j_ cg (by decide) (by kernel_rfl) F (fun z6=>⟨by exact Sub.d (.k (.d (.k (.k (.k (.k (.k .rf))))))),?_⟩))
   refine bo F F (bY 2 j_ j_ cg F F F F (by rw[fI]) (by decide) (Src.row (j:=0) F (by simp)) (by simp[dS]) (by dsimp only;omega) (by decide) (by decide) (fun z7 Am=>⟨by exact Sub.d (.k (.d (.k (.k (.k (.k (.k .rf))))))),?_⟩))
   refine ao F (cV (i:=R.length) u0 mq F F (cP (mG 1 F)) u3 (by rw[kg (by simp;omega)];exact u3)) ?_
   refine bq F F (lB (j:=R.length) (v:=(.slice z7 (l.length+1) Am)) (vs:=[(.slice z7 (l.length+1) Am)]) (cs:=gA (R++[⟨cb,cc,l⟩]) M.next.length) 3 mq F F F F F (by simp) F (by rw[kg (by simp;omega)];simp;omega) ?_)
   let Sg:Lx.Item:=am (aD z4) M.next.length 75 1 (gA (R++[⟨z7,Am,l++[pd]⟩]) M.next.length)
   refine dL (O':=([am (aD z6) 1 69 2 pd.cells,oI z5 69 pd.cells,am z7 Am 69 2 ((dp l)++pd.cells),Sg,pj,iL,il,mM]++(cq 72 p4++(dt 69 R++a_ 3 k2.qs)))) (by rw[show dK (gA (R++[⟨cb,cc,l⟩]) M.next.length) R.length [(.slice z7 (l.length+1) Am)]=gA (R++[⟨z7,Am,l++[pd]⟩]) M.next.length from(by rw[←xn (by omega) ⟨cb,cc,l⟩ ⟨z7,Am,l++[pd]⟩,show(⟨z7,Am,l++[pd]⟩:MR).val=.slice z7 (l.length+1) Am by simp[MR.val]];rfl)];exact bn (List.Sublist.refl _)) ?_
   refine bw ?_
   refine aJ (ad (cx (a:=l.length) (b:=1) F F (by omega)) (ah F (ae ?_)))
   exact⟨l++[pd],by simp;omega,[am z7 Am 69 2 (dp (l++[pd])),Sg,pj,iL,il,mM]++(cq 72 p4++(dt 69 R++a_ 3 k2.qs)),(by rw[qZ];exact(by exact Sub.d (.d (.k (.k (.k (.k (.k (.k .rf))))))))),p4,z7,Am,F,by simp;omega,(hl.mono Ht).snoc (KW.trans (by rw[show x=da M by omega];rfl)) Fz,rR.mono Ht,ow.mono Ht,⟨F,F,F,F,F,F,F,F,F,F,F,F,F,F,F,(congrArg (fun n9:Nat=>Value.int .i64 ((n9:Nat):Int)) (show l.length+1=(l++[pd]).length by simp)),trivial⟩⟩
  have lM: ¬l.length<M.next.length:=by omega
  refine bJ ?_
  refine aJ (ad (cx (a:=R.length) (b:=1) F F (by omega)) (ah F (ae ?_)))
  have M4:l.length=M.next.length:=by omega
  exact⟨R++[⟨cb,cc,l⟩],by simp;omega,[am (aD z4) M.next.length 75 1 (gA (R++[⟨cb,cc,l⟩]) M.next.length),pj,iL,il,mM]++(cq 72 p2++(dt 69 (R++[⟨cb,cc,l⟩])++a_ 3 k2.qs)),(by rw[Ae];exact s7 [am (aD z4) M.next.length 75 1 (gA (R++[⟨cb,cc,l⟩]) M.next.length),oI z3 69 c0.cells,am k2.nb k2.nc 56 1 (bO k2.qs),am k2.fb k2.fc 4 1 (bf M.ax),oI z2 25 (dC M k2)] [am cb cc 69 2 (dp l),am (aD z4) M.next.length 75 1 (gA (R++[⟨cb,cc,l⟩]) M.next.length),oI z3 69 c0.cells,am k2.nb k2.nc 56 1 (bO k2.qs),am k2.fb k2.fc 4 1 (bf M.ax),oI z2 25 (dC M k2)] (cq 72 p2) (dt 69 R) (a_ 3 k2.qs) (am cb cc 69 2 (dp l)) (by exact Sub.dr [am cb cc 69 2 (dp l)] _ (.dr [am cb cc 69 2 (dp l)] _ (.dr [am cb cc 69 2 (dp l)] _ (.dr [am cb cc 69 2 (dp l)] _ (.dr [am cb cc 69 2 (dp l)] _ (.k .z))))))),p2,F,by simp;omega,rR.snoc M4 hl,ow,⟨F,F,F,F,F,F,F,F,F,F,F,(congrArg (fun n9:Nat=>Value.int .i64 ((n9:Nat):Int)) (show R.length+1=(R++[(⟨cb,cc,l⟩:MR)]).length by simp)),trivial⟩⟩
 have Sh: ¬R.length<M.next.length:=by omega
 refine bJ ?_
 refine aB (ai (ah F (ah F (ae (aG ?_)))))
 have Wq:R.length=M.next.length:=by omega
 have heV:=xm Wq
 refine cM (fun(k9:Nat) ρ O=> ∃(R:List MR) (p:List ER) (ob:Option Addr) (oc:Nat),O=([am ob oc 75 1 (ja R),pj,iL,il,mM]++(cq 72 p++(dt 69 R++a_ 3 k2.qs)))∧k9≤M.next.length∧R.length=M.next.length∧nJ R p M.next.length (ke M k9)∧eJ p c0.r∧cw [(0,(dV d k)),(1,Ak),(2,nS),(3,vI 0),(4,Cp),(5,vI 0),(6,vI (M.next.length:Int)),(7,Cq),(8,(.slice ob M.next.length oc)),(90,vI (M.next.length:Int)),(91,vN k9)] ρ) (fun k9=>M.next.length-k9) 0 ?_ ?_
 ·exact⟨R,p,(aD z4),M.next.length,by rw[heV],Nat.zero_le _,Wq,hR,ow,(.of F)⟩
 rintro k9 ρ O ⟨R,p,ob,oc,rfl,s8,Wq,hR,ow,hH⟩
 obtain⟨fE,rfl⟩:=hH.elim
 clear hH
 refine ai (ad (bT F F) (ae (aB (aC F (fun hc=>?_) (fun hc=>?_)))))
 ·have M5:k9<M.next.length:=by omega
  refine av (aB (aG (ai (ah F (aj F (ae (ai (ah F (ak F (bX (m:=M.next.length) u0 mq F F (by omega) (by omega) (fun z9=>?_)))))))))))
  refine aj F (ae (aB (ai (ah F (ah F (ae (aG ?_)))))))
  let ox:Lx.Item:=am ob oc 75 1 (ja R)
  refine cM (fun(R2:List MR) ρ O=> ∃(p2:List ER),O=([am (aD z9) M.next.length 75 1 (gA R2 M.next.length),ox,pj,iL,il,mM]++(cq 72 p2++(dt 69 R2++(dt 69 R++a_ 3 k2.qs))))∧R2.length≤M.next.length∧nJ R2 p2 M.next.length (ke M (k9+1))∧nJ R p2 M.next.length (ke M k9)∧eJ p2 c0.r∧cw [(0,(dV d k)),(1,Ak),(2,nS),(3,vI 0),(4,Cp),(5,vI 0),(6,vI (M.next.length:Int)),(7,Cq),(8,(.slice ob M.next.length oc)),(15,vN k9),(16,(.slice (aD z9) M.next.length M.next.length)),(90,vI (M.next.length:Int)),(91,vN k9),(96,vI (M.next.length:Int)),(97,vN R2.length)] ρ) (fun R2=>M.next.length-R2.length) [] ?_ ?_
  ·exact⟨p,by unfold gA ja;rfl,Nat.zero_le _,.nil,hR,ow,(.of F)⟩
  rintro R2 ρ O ⟨p2,rfl,hs,rR,hR,ow,hH⟩
  obtain⟨fE,rfl⟩:=hH.elim
  clear hH
  refine ai (ad (bT F F) (ae (aB (aC F (fun hc=>?_) (fun hc=>?_)))))
  ·have An:R2.length<M.next.length:=by omega
   refine av (aB (aG (ai (ah F (aj F (ae (ai (ah F (ah F (ae (aG (T.dJ 69 2 ?_))))))))))))
   refine cM (fun(l:List PR) ρ O=> ∃(p3:List ER) (cb:Option Addr) (cc:Nat),O=([am cb cc 69 2 (dp l),am (aD z9) M.next.length 75 1 (gA (R2++[⟨cb,cc,l⟩]) M.next.length),ox,pj,iL,il,mM]++(cq 72 p3++(dt 69 R2++(dt 69 R++a_ 3 k2.qs))))∧l.length≤M.next.length∧tS l p3 (ke M (k9+1) R2.length)∧nJ R2 p3 M.next.length (ke M (k9+1))∧nJ R p3 M.next.length (ke M k9)∧eJ p3 c0.r∧cw [(0,(dV d k)),(1,Ak),(2,nS),(3,vI 0),(4,Cp),(5,vI 0),(6,vI (M.next.length:Int)),(7,Cq),(8,(.slice ob M.next.length oc)),(15,vN k9),(16,(.slice (aD z9) M.next.length M.next.length)),(17,vN R2.length),(90,vI (M.next.length:Int)),(91,vN k9),(96,vI (M.next.length:Int)),(97,vN R2.length),(100,vI (M.next.length:Int)),(101,vN l.length)] ρ) (fun l=>M.next.length-l.length) [] ?_ ?_
   ·exact⟨p2,none,0,by rw[Af An];rfl,Nat.zero_le _,.nil,rR,hR,ow,(.of F)⟩
   rintro l ρ O ⟨p3,cb,cc,rfl,ht,hl,Si,s9,ow,hH⟩
   obtain⟨fE,rfl⟩:=hH.elim
   clear hH
   refine ai (ad (bT F F) (ae (aB (aC F (fun hc=>?_) (fun hc=>?_)))))
   ·have Hw:l.length<M.next.length:=by omega
    have BM:R2.length<R.length:=by omega
    have lC:k9<R.length:=by omega
    obtain⟨a1,ea1,M6,Ao⟩:=s9.at BM Hw
    obtain⟨a2,ea2,Sj,KZ⟩:=s9.at BM M5
    obtain⟨a3,ea3,YU,Sk⟩:=s9.at lC M5
    obtain⟨a4,ea4,YV,FA⟩:=s9.at lC Hw
    have Wr:ek a1.pp:=by rw[M6];exact gh KS _ _ _
    have Sm:ek a2.pp:=by rw[Sj];exact gh KS _ _ _
    have Sn:ek a3.pp:=by rw[YU];exact gh KS _ _ _
    have Sp:ek a4.pp:=by rw[YV];exact gh KS _ _ _
    have aaJ:=s9.len _ (List.getElem_mem BM)
    have aaK:=s9.len _ (List.getElem_mem lC)
    refine av (aB (aG (ai (ah F (aj F (ae ?_))))))
    let eQ:List Lx.Item:=[am (aD z9) M.next.length 75 1 (gA (R2++[⟨cb,cc,l⟩]) M.next.length),am ob oc 75 1 (ja R),oI z3 69 c0.cells,am k2.nb k2.nc 56 1 (bO k2.qs),am k2.fb k2.fc 4 1 (bf M.ax),oI z2 25 (dC M k2)]
    refine T.ds (eQ++(cq 72 p3++(dt 69 R2++(dt 69 R++a_ 3 k2.qs)))) [(0,0),(1,0),(2,0),(3,0),(4,0),(5,0),(6,0),(7,0),(8,0),(9,0),(10,0),(11,0),(12,0),(13,0),(14,0),(15,0),(16,0),(17,0),(18,0),(19,0),(20,0),(21,0),(22,0),(23,0),(24,0),(25,0),(26,0),(29,0),(30,0),(31,0),(32,0),(33,0),(34,0),(35,0),(27,1),(28,1),(36,1),(37,1),(38,1),(39,1),(40,0),(41,2)] (by exact Sub.d (.k (.k (.k (.k (.k (.k .rf))))))) ?_
    refine ao F (az F) (ao F (az F) (ao F (az F) (ao F (az F) (ao F (cV (i:=R2.length) u0 mq F F (cP (mG 0 F)) An (by rw[kg (by simp;omega)];exact An)) (ao F (cd j_ F F (cP (mG 0 F)) (Ah (by omega) ⟨cb,cc,l⟩)) (ao F (az F) (ao F (az F) (ao F (cV (i:=R2.length) u0 mq F F (cP (mG 1 F)) (by omega) (by rw[mn];exact BM)) (ao F (cd j_ F F (cP (mG 1 F)) (mm BM)) (ao F (az F) (ao F (cY (i:=l.length) j_ cg F F (cP (List.mem_append_right _ (List.mem_append_right _ (List.mem_append_right _ (List.mem_append_left _ (iC BM)))))) (by omega) (by rw[fI];omega)) (ao F (dy (vs:=a1.cells) eG F cg F F (Nat.succ_pos _) (cP (List.mem_append_right _ (List.mem_append_right _ (List.mem_append_right _ (List.mem_append_left _ (iC BM)))))) (ld ea1)) (ao F (az F) (ao F (az F) (ao F (cV (i:=R2.length) u0 mq F F (cP (mG 1 F)) (by omega) (by rw[mn];exact BM)) (ao F (cd j_ F F (cP (mG 1 F)) (mm BM)) (ao F (az F) (ao F (cY (i:=k9) j_ cg F F (cP (List.mem_append_right _ (List.mem_append_right _ (List.mem_append_right _ (List.mem_append_left _ (iC BM)))))) (by omega) (by rw[fI];omega)) (ao F (dy (vs:=a2.cells) eG F cg F F (Nat.succ_pos _) (cP (List.mem_append_right _ (List.mem_append_right _ (List.mem_append_right _ (List.mem_append_left _ (iC BM)))))) (ld ea2)) (ao F (az F) (ao F (az F) (ao F (cV (i:=k9) u0 mq F F (cP (mG 1 F)) (by omega) (by rw[mn];exact lC)) (ao F (cd j_ F F (cP (mG 1 F)) (mm lC)) (ao F (az F) (ao F (cY (i:=k9) j_ cg F F (cP (List.mem_append_right _ (List.mem_append_right _ (List.mem_append_right _ (List.mem_append_left _ (iC lC)))))) (by omega) (by rw[fI];omega)) (ao F (dy (vs:=a3.cells) eG F cg F F (Nat.succ_pos _) (cP (List.mem_append_right _ (List.mem_append_right _ (List.mem_append_right _ (List.mem_append_left _ (iC lC)))))) (ld ea3)) (ao F (az F) (ao F (az F) (ao F (cV (i:=k9) u0 mq F F (cP (mG 1 F)) (by omega) (by rw[mn];exact lC)) (ao F (cd j_ F F (cP (mG 1 F)) (mm lC)) (ao F (az F) ?_)))))))))))))))))))))))))))))))
    refine ao F (cY (i:=l.length) j_ cg F F (cP (List.mem_append_right _ (List.mem_append_right _ (List.mem_append_right _ (List.mem_append_left _ (iC lC)))))) (by omega) (by rw[fI];omega)) (ao F (dy (vs:=a4.cells) eG F cg F F (Nat.succ_pos _) (cP (List.mem_append_right _ (List.mem_append_right _ (List.mem_append_right _ (List.mem_append_left _ (iC lC)))))) (ld ea4)) ?_)
    refine bo F F (aP Sq (aI fun w1 hI=>(haveI:=di hI;OR w1 a3 (eJ.sl (T:=72) hI (fun it dZ=>List.mem_append_right _ (List.mem_append_left _ dZ)) Sk) Sn)) F ?_)
    rintro vr O' ⟨N,rfl,q1,c1,rfl,rfl,ww,Aj⟩
    refine⟨k8 _ (by exact Sub.d (.k (.k (.k (.k (.k (.k .rf))))))),?_⟩
    have KU:eJ (q1++p3) c1.r:=s6 Aj (fun x hx=>by simp only[List.mem_cons,List.not_mem_nil,or_false]at hx;rcases hx with rfl;exact Sk)
    have Sr:ek c1.pp:=by rw[ww];exact uX Sn
    have Ao:=Ao.mono (fun y hy=>List.mem_append_right q1 hy)
    have KZ:=KZ.mono (fun y hy=>List.mem_append_right q1 hy)
    have FA:=FA.mono (fun y hy=>List.mem_append_right q1 hy)
    let jj:List Lx.Item:=[am cb cc 69 2 (dp l),am (aD z9) M.next.length 75 1 (gA (R2++[⟨cb,cc,l⟩]) M.next.length),am ob oc 75 1 (ja R),oI z3 69 c0.cells,am k2.nb k2.nc 56 1 (bO k2.qs),am k2.fb k2.fc 4 1 (bf M.ax),oI z2 25 (dC M k2)]
    refine dL (O':=(jj++((cq 72 q1)++(cq 72 p3++(dt 69 R2++(dt 69 R++a_ 3 k2.qs)))))) (by exact eg [] _ (cq 72 q1) (cq 72 p3++(dt 69 R2++(dt 69 R++a_ 3 k2.qs)))) ?_
    refine bo F F (aP M7 (aI fun w1 hI=>(haveI:=di hI;M3 w1 a2 c1 (eJ.sl (T:=72) hI (jr (fun it dZ=>List.mem_append_right _ (List.mem_append_left _ dZ)) (fun it dZ=>List.mem_append_right _ (List.mem_append_right _ (List.mem_append_left _ dZ)))) KZ) Sm (eJ.sl (T:=72) hI (jr (fun it dZ=>List.mem_append_right _ (List.mem_append_left _ dZ)) (fun it dZ=>List.mem_append_right _ (List.mem_append_right _ (List.mem_append_left _ dZ)))) KU) Sr)) F ?_)
    rintro vr O' ⟨N,rfl,q2,c2,rfl,rfl,pO,Aj⟩
    refine⟨k8 _ (dO eQ jj (cq 72 q1) (cq 72 p3++(dt 69 R2++(dt 69 R++a_ 3 k2.qs))) (by exact Sub.d (.k (.k (.k (.k (.k (.k .z)))))))),?_⟩
    have Hu:eJ (q2++(q1++p3)) c2.r:=s6 Aj (fun x hx=>by simp only[List.mem_cons,List.not_mem_nil,or_false]at hx;rcases hx with rfl|rfl;exact KZ;exact KU)
    have KX:ek c2.pp:=by rw[pO];exact pg Sm Sr
    have Ao:=Ao.mono (fun y hy=>List.mem_append_right q2 hy)
    have FA:=FA.mono (fun y hy=>List.mem_append_right q2 hy)
    refine dL (O':=(jj++((cq 72 q2)++((cq 72 q1)++(cq 72 p3++(dt 69 R2++(dt 69 R++a_ 3 k2.qs))))))) (by exact eg [] _ (cq 72 q2) ((cq 72 q1)++(cq 72 p3++(dt 69 R2++(dt 69 R++a_ 3 k2.qs))))) ?_
    refine bo F F (aP M7 (aI fun w1 hI=>(haveI:=di hI;M3 w1 c2 a4 (eJ.sl (T:=72) hI (jr (fun it dZ=>List.mem_append_right _ (List.mem_append_left _ dZ)) (jr (fun it dZ=>List.mem_append_right _ (List.mem_append_right _ (List.mem_append_left _ dZ))) (fun it dZ=>List.mem_append_right _ (List.mem_append_right _ (List.mem_append_right _ (List.mem_append_left _ dZ)))))) Hu) KX (eJ.sl (T:=72) hI (jr (fun it dZ=>List.mem_append_right _ (List.mem_append_left _ dZ)) (jr (fun it dZ=>List.mem_append_right _ (List.mem_append_right _ (List.mem_append_left _ dZ))) (fun it dZ=>List.mem_append_right _ (List.mem_append_right _ (List.mem_append_right _ (List.mem_append_left _ dZ)))))) FA) Sp)) F ?_)
    rintro vr O' ⟨N,rfl,q3,c3,rfl,rfl,Vq,Aj⟩
    refine⟨k8 _ ((dO eQ eQ (cq 72 q1) (cq 72 p3++(dt 69 R2++(dt 69 R++a_ 3 k2.qs))) Sub.rf).trans (dO eQ jj (cq 72 q2) ((cq 72 q1)++(cq 72 p3++(dt 69 R2++(dt 69 R++a_ 3 k2.qs)))) (by exact Sub.d (.k (.k (.k (.k (.k (.k .z))))))))),?_⟩
    have KY:eJ (q3++(q2++(q1++p3))) c3.r:=s6 Aj (fun x hx=>by simp only[List.mem_cons,List.not_mem_nil,or_false]at hx;rcases hx with rfl|rfl;exact Hu;exact FA)
    have Ws:ek c3.pp:=by rw[Vq];exact pg KX Sp
    have Ao:=Ao.mono (fun y hy=>List.mem_append_right q3 hy)
    refine dL (O':=(jj++((cq 72 q3)++((cq 72 q2)++((cq 72 q1)++(cq 72 p3++(dt 69 R2++(dt 69 R++a_ 3 k2.qs)))))))) (by exact eg [] _ (cq 72 q3) ((cq 72 q2)++((cq 72 q1)++(cq 72 p3++(dt 69 R2++(dt 69 R++a_ 3 k2.qs)))))) ?_
    refine bo F F (aP Hv (aI fun w1 hI=>(haveI:=di hI;OQ w1 a1 c3 (eJ.sl (T:=72) hI (jr (fun it dZ=>List.mem_append_right _ (List.mem_append_left _ dZ)) (jr (fun it dZ=>List.mem_append_right _ (List.mem_append_right _ (List.mem_append_left _ dZ))) (jr (fun it dZ=>List.mem_append_right _ (List.mem_append_right _ (List.mem_append_right _ (List.mem_append_left _ dZ)))) (fun it dZ=>List.mem_append_right _ (List.mem_append_right _ (List.mem_append_right _ (List.mem_append_right _ (List.mem_append_left _ dZ)))))))) Ao) Wr (eJ.sl (T:=72) hI (jr (fun it dZ=>List.mem_append_right _ (List.mem_append_left _ dZ)) (jr (fun it dZ=>List.mem_append_right _ (List.mem_append_right _ (List.mem_append_left _ dZ))) (jr (fun it dZ=>List.mem_append_right _ (List.mem_append_right _ (List.mem_append_right _ (List.mem_append_left _ dZ)))) (fun it dZ=>List.mem_append_right _ (List.mem_append_right _ (List.mem_append_right _ (List.mem_append_right _ (List.mem_append_left _ dZ)))))))) KY) Ws)) F ?_)
    rintro vr O' ⟨N,rfl,q4,c4,rfl,rfl,hc4,Aj⟩
    refine⟨k8 _ ((dO eQ eQ (cq 72 q1) (cq 72 p3++(dt 69 R2++(dt 69 R++a_ 3 k2.qs))) Sub.rf).trans ((dO eQ eQ (cq 72 q2) ((cq 72 q1)++(cq 72 p3++(dt 69 R2++(dt 69 R++a_ 3 k2.qs)))) Sub.rf).trans (dO eQ jj (cq 72 q3) ((cq 72 q2)++((cq 72 q1)++(cq 72 p3++(dt 69 R2++(dt 69 R++a_ 3 k2.qs))))) (by exact Sub.d (.k (.k (.k (.k (.k (.k .z)))))))))),?_⟩
    have Wu:eJ (q4++(q3++(q2++(q1++p3)))) c4.r:=s6 Aj (fun x hx=>by simp only[List.mem_cons,List.not_mem_nil,or_false]at hx;rcases hx with rfl|rfl;exact Ao;exact KY)
    have e9:c4.pp=ke M (k9+1) R2.length l.length:=by rw[hc4,Vq,pO,ww,M6,Sj,YU,YV];rfl
    refine dL (O':=(jj++((cq 72 q4)++((cq 72 q3)++((cq 72 q2)++((cq 72 q1)++(cq 72 p3++(dt 69 R2++(dt 69 R++a_ 3 k2.qs))))))))) (by exact eg [] _ (cq 72 q4) ((cq 72 q3)++((cq 72 q2)++((cq 72 q1)++(cq 72 p3++(dt 69 R2++(dt 69 R++a_ 3 k2.qs))))))) ?_
    let Ss:Lx.Item:=am (aD z9) M.next.length 75 1 (gA (R2++[⟨cb,cc,l⟩]) M.next.length)
    refine bo F F (bH (m:=1) (parts:=[(0,_)]) (cs:=c4.cells) j_ cg (by decide) (by kernel_rfl) F (fun nC=>⟨(dO eQ eQ (cq 72 q1) (cq 72 p3++(dt 69 R2++(dt 69 R++a_ 3 k2.qs))) Sub.rf).trans ((dO eQ eQ (cq 72 q2) ((cq 72 q1)++(cq 72 p3++(dt 69 R2++(dt 69 R++a_ 3 k2.qs)))) Sub.rf).trans ((dO eQ eQ (cq 72 q3) ((cq 72 q2)++((cq 72 q1)++(cq 72 p3++(dt 69 R2++(dt 69 R++a_ 3 k2.qs))))) Sub.rf).trans (dO eQ [am (aD nC) 1 69 2 c4.cells,am cb cc 69 2 (dp l),Ss,ox,pj,iL,il,mM] (cq 72 q4) ((cq 72 q3)++((cq 72 q2)++((cq 72 q1)++(cq 72 p3++(dt 69 R2++(dt 69 R++a_ 3 k2.qs)))))) (by exact Sub.d (.d (.k (.k (.k (.k (.k (.k .z))))))))))),?_⟩))
    refine bo F F (bY 1 j_ j_ cg F F F F (by rw[fI]) (by decide) (Src.row (j:=0) F (by simp)) (by simp[dS]) (by dsimp only;omega) (by decide) (by decide) (fun tR ou=>⟨(dO eQ eQ (cq 72 q1) (cq 72 p3++(dt 69 R2++(dt 69 R++a_ 3 k2.qs))) Sub.rf).trans ((dO eQ eQ (cq 72 q2) ((cq 72 q1)++(cq 72 p3++(dt 69 R2++(dt 69 R++a_ 3 k2.qs)))) Sub.rf).trans ((dO eQ eQ (cq 72 q3) ((cq 72 q2)++((cq 72 q1)++(cq 72 p3++(dt 69 R2++(dt 69 R++a_ 3 k2.qs))))) Sub.rf).trans (dO eQ [am (aD nC) 1 69 2 c4.cells,am tR ou 69 2 ((dp l)++c4.cells),Ss,ox,pj,iL,il,mM] (cq 72 q4) ((cq 72 q3)++((cq 72 q2)++((cq 72 q1)++(cq 72 p3++(dt 69 R2++(dt 69 R++a_ 3 k2.qs)))))) (by exact Sub.d (.d (.k (.k (.k (.k (.k (.k .z))))))))))),?_⟩))
    refine ao F (cV (i:=R2.length) u0 mq F F (cP (mG 0 F)) An (by rw[kg (by simp;omega)];exact An)) ?_
    refine bq F F (lB (j:=R2.length) (v:=(.slice tR (l.length+1) ou)) (vs:=[(.slice tR (l.length+1) ou)]) (cs:=gA (R2++[⟨cb,cc,l⟩]) M.next.length) 2 mq F F F F F (by simp) F (by rw[kg (by simp;omega)];simp;omega) ?_)
    let Cr:List Lx.Item:=[am (aD nC) 1 69 2 c4.cells,am tR ou 69 2 ((dp l)++c4.cells),am (aD z9) M.next.length 75 1 (gA (R2++[⟨tR,ou,l++[c4]⟩]) M.next.length),am ob oc 75 1 (ja R),pj,iL,il,mM]
    refine dL (O':=(Cr++((cq 72 q4)++((cq 72 q3)++((cq 72 q2)++((cq 72 q1)++(cq 72 p3++(dt 69 R2++(dt 69 R++a_ 3 k2.qs))))))))) (by rw[show dK (gA (R2++[⟨cb,cc,l⟩]) M.next.length) R2.length [(.slice tR (l.length+1) ou)]=gA (R2++[⟨tR,ou,l++[c4]⟩]) M.next.length from(by rw[←xn (by omega) ⟨cb,cc,l⟩ ⟨tR,ou,l++[c4]⟩,show(⟨tR,ou,l++[c4]⟩:MR).val=.slice tR (l.length+1) ou by simp[MR.val]];rfl)];exact bn (List.Sublist.refl _)) ?_
    refine dL (O':=(Cr++(cq 72 (q4++(q3++(q2++(q1++p3))))++(dt 69 R2++(dt 69 R++a_ 3 k2.qs))))) (by simp only[oq,List.append_assoc];exact Sub.rf) ?_
    refine bw ?_
    refine aJ (ad (cx (a:=l.length) (b:=1) F F (by omega)) (ah F (ae ?_)))
    have KV: ∀y∈p3,y∈(q4++(q3++(q2++(q1++p3)))):=fun y hy=>by simp[hy]
    exact⟨l++[c4],by simp;omega,[am tR ou 69 2 (dp (l++[c4])),am (aD z9) M.next.length 75 1 (gA (R2++[⟨tR,ou,l++[c4]⟩]) M.next.length),ox,pj,iL,il,mM]++(cq 72 (q4++(q3++(q2++(q1++p3))))++(dt 69 R2++(dt 69 R++a_ 3 k2.qs))),(by rw[qZ];exact(by exact Sub.d (.k (.k (.k (.k (.k (.k (.k .rf))))))))),(q4++(q3++(q2++(q1++p3)))),tR,ou,F,by simp;omega,(hl.mono KV).snoc e9 Wu,Si.mono KV,s9.mono KV,ow.mono KV,⟨F,F,F,F,F,F,F,F,F,F,F,F,F,F,F,F,F,(congrArg (fun n9:Nat=>Value.int .i64 ((n9:Nat):Int)) (show l.length+1=(l++[c4]).length by simp)),trivial⟩⟩
   have Wv: ¬l.length<M.next.length:=by omega
   refine bJ ?_
   refine aJ (ad (cx (a:=R2.length) (b:=1) F F (by omega)) (ah F (ae ?_)))
   have M4:l.length=M.next.length:=by omega
   exact⟨R2++[⟨cb,cc,l⟩],by simp;omega,[am (aD z9) M.next.length 75 1 (gA (R2++[⟨cb,cc,l⟩]) M.next.length),ox,pj,iL,il,mM]++(cq 72 p3++(dt 69 (R2++[⟨cb,cc,l⟩])++(dt 69 R++a_ 3 k2.qs))),(by rw[Ae];exact s7 [am (aD z9) M.next.length 75 1 (gA (R2++[⟨cb,cc,l⟩]) M.next.length),am ob oc 75 1 (ja R),oI z3 69 c0.cells,am k2.nb k2.nc 56 1 (bO k2.qs),am k2.fb k2.fc 4 1 (bf M.ax),oI z2 25 (dC M k2)] [am cb cc 69 2 (dp l),am (aD z9) M.next.length 75 1 (gA (R2++[⟨cb,cc,l⟩]) M.next.length),am ob oc 75 1 (ja R),oI z3 69 c0.cells,am k2.nb k2.nc 56 1 (bO k2.qs),am k2.fb k2.fc 4 1 (bf M.ax),oI z2 25 (dC M k2)] (cq 72 p3) (dt 69 R2) (dt 69 R++a_ 3 k2.qs) (am cb cc 69 2 (dp l)) (by exact Sub.dr [am cb cc 69 2 (dp l)] _ (.dr [am cb cc 69 2 (dp l)] _ (.dr [am cb cc 69 2 (dp l)] _ (.dr [am cb cc 69 2 (dp l)] _ (.dr [am cb cc 69 2 (dp l)] _ (.dr [am cb cc 69 2 (dp l)] _ (.k .z)))))))),p3,F,by simp;omega,Si.snoc M4 hl,s9,ow,⟨F,F,F,F,F,F,F,F,F,F,F,F,F,F,(congrArg (fun n9:Nat=>Value.int .i64 ((n9:Nat):Int)) (show R2.length+1=(R2++[(⟨cb,cc,l⟩:MR)]).length by simp)),trivial⟩⟩
  have YW: ¬R2.length<M.next.length:=by omega
  refine bJ ?_
  refine aJ (ah F (aj F (ae (aJ (ad (cx (a:=k9) (b:=1) F F (by omega)) (ah F (ae ?_)))))))
  have Su:R2.length=M.next.length:=by omega
  have Ww:=xm Su
  exact⟨k9+1,by omega,[am (aD z9) M.next.length 75 1 (ja R2),pj,iL,il,mM]++(cq 72 p2++(dt 69 R2++a_ 3 k2.qs)),(by rw[←Ww];exact Ai [am (aD z9) M.next.length 75 1 (gA R2 M.next.length),oI z3 69 c0.cells,am k2.nb k2.nc 56 1 (bO k2.qs),am k2.fb k2.fc 4 1 (bf M.ax),oI z2 25 (dC M k2)] [am (aD z9) M.next.length 75 1 (gA R2 M.next.length),am ob oc 75 1 (ja R),oI z3 69 c0.cells,am k2.nb k2.nc 56 1 (bO k2.qs),am k2.fb k2.fc 4 1 (bf M.ax),oI z2 25 (dC M k2)] (cq 72 p2) (dt 69 R2) (dt 69 R) (a_ 3 k2.qs) (by exact Sub.k (.d (.k (.k (.k (.k .z))))))),R2,p2,(aD z9),M.next.length,F,by omega,Su,rR,ow,(.of F)⟩
 have YX: ¬k9<M.next.length:=by omega
 refine bJ ?_
 refine aB ?_
 have Sv:k9=M.next.length:=by omega
 have Rn:0<R.length:=by omega
 refine aJ (ad (dh 1 eG F cg F F F) (ak F (aR cg F (fun lK=>?_))))
 refine ak F (a8 (vs:=c0.cells) 0 cg F F F F ?_)
 refine ae (aB (ai (ad (aN bW F cA F F) (ad (aQ 5 df F F F F) (ad (a7 (bS df F) (v':=vN M.next.length) (by rw[Fy.fin])) (ah F (ae (aG ?_))))))))
 let qk:Lx.Item:=am ob oc 75 1 (ja R)
 refine ck (O':=([oI lK 69 c0.cells,qk,iL,il]++(cq 72 p++(dt 69 R++a_ 3 k2.qs)))) (by exact Sub.k (.k (.d (.k (.k (.d .rf)))))) ?_
 refine cM (fun(t:Nat) ρ O=> ∃(p2:List ER) (po:PR),O=([oI lK 69 po.cells,qk,iL,il]++(cq 72 p2++(dt 69 R++a_ 3 k2.qs)))∧t≤M.next.length∧po.pp=wv M t∧eJ p2 po.r∧nJ R p2 M.next.length (ke M k9)∧cw [(0,(dV d k)),(1,Ak),(2,nS),(3,vI 0),(5,vI 0),(6,vI (M.next.length:Int)),(8,(.slice ob M.next.length oc)),(19,(.pointer (aD lK))),(151,(.slice k2.fb M.ax.length k2.fc)),(152,vN M.next.length),(153,vN t)] ρ) (fun t=>M.next.length-t) 0 ?_ ?_
 ·exact⟨p,c0,F,Nat.zero_le _,wQ,ow,hR,(.of F)⟩
 rintro t ρ O ⟨p2,po,rfl,ht,K0,K1,rR,hH⟩
 obtain⟨fE,rfl⟩:=hH.elim
 clear hH
 refine ai (ad (bT F F) (ae (aB (aC F (fun hc=>?_) (fun hc=>?_)))))
 ·have yk:t<M.next.length:=by omega
  obtain⟨a5,ea5,YY,Sw⟩:=rR.at Rn yk
  have Wx:ek a5.pp:=by rw[YY];exact gh KS _ _ _
  have Wy:ek po.pp:=by rw[K0];exact ph KS _
  have aaN:=rR.len _ (List.getElem_mem Rn)
  refine av (aB (aG (ai (ah F (ad (cV (i:=t) df dU F F (cP (mG 3 F)) (by rw[Fy.fin];exact yk) (by rw[List.length_map,Fy.fin];exact yk)) (ad (cd zi F F (cP (mG 3 F)) (mR Fy yk)) (aj F (aj F (ae (ai (ah F (ae (T.cond F (fun hc=>?_) (fun hc=>?_))))))))))))))
  ·have Sx:cF M t=true:=hc
   refine eD [(0,0),(1,0),(2,0),(3,0),(4,0),(5,0),(6,0),(7,2),(8,2)] ?_
   refine ao F (dh 0 eG F cg F F F) (ao F (az F) (ao F (cV (i:=0) u0 mq F F (cP (mG 1 F)) (by omega) (by rw[mn];exact Rn)) (ao F (cd j_ F F (cP (mG 1 F)) (mm Rn)) (ao F (az F) (ao F (cY (i:=t) j_ cg F F (cP (List.mem_append_right _ (List.mem_append_right _ (List.mem_append_left _ (iC Rn))))) (by omega) (by rw[fI];omega)) (ao F (dy (vs:=a5.cells) eG F cg F F (Nat.succ_pos _) (cP (List.mem_append_right _ (List.mem_append_right _ (List.mem_append_left _ (iC Rn))))) (ld ea5)) ?_))))))
   refine bq F F (aP Hv (aI fun w1 hI=>(haveI:=di hI;OQ w1 po a5 (eJ.sl (T:=72) hI (fun it dZ=>List.mem_append_right _ (List.mem_append_left _ dZ)) K1) Wy (eJ.sl (T:=72) hI (fun it dZ=>List.mem_append_right _ (List.mem_append_left _ dZ)) Sw) Wx)) F ?_)
   rintro vr O' ⟨N,rfl,q6,c6,rfl,rfl,hc6,Aj⟩
   have Wz:eJ (q6++p2) c6.r:=s6 Aj (fun x hx=>by simp only[List.mem_cons,List.not_mem_nil,or_false]at hx;rcases hx with rfl|rfl;exact K1;exact Sw)
   
   refine dL (O':=([oI lK 69 po.cells,qk,iL,il]++((cq 72 q6)++(cq 72 p2++(dt 69 R++a_ 3 k2.qs))))) (by exact eg [] _ (cq 72 q6) (cq 72 p2++(dt 69 R++a_ 3 k2.qs))) ?_
   refine bq F F (a8 (vs:=c6.cells) 0 cg F F F F ?_)
   refine dL (O':=([oI lK 69 c6.cells,qk,iL,il]++(cq 72 (q6++p2)++(dt 69 R++a_ 3 k2.qs)))) (by simp only[oq,List.append_assoc];exact Sub.rf) ?_
   refine bw ?_
   refine aJ (ad (cx (a:=t) (b:=1) F F (by omega)) (ah F (ae ?_)))
   have e9:c6.pp=wv M (t+1):=by rw[hc6,K0,YY,Sv,wv,if_pos Sx]
   exact⟨t+1,by omega,[oI lK 69 c6.cells,qk,iL,il]++(cq 72 (q6++p2)++(dt 69 R++a_ 3 k2.qs)),(by exact Sub.rf),(q6++p2),c6,F,by omega,e9,Wz,rR.mono (fun y hy=>List.mem_append_right _ hy),(.of F)⟩
  have Sx: ¬cF M t=true:=by rw[hc];simp
  refine av (aJ (ad (cx (a:=t) (b:=1) F F (by omega)) (ah F (ae ?_))))
  exact⟨t+1,by omega,[oI lK 69 po.cells,qk,iL,il]++(cq 72 p2++(dt 69 R++a_ 3 k2.qs)),(by exact Sub.rf),p2,po,F,by omega,by rw[wv,if_neg Sx];exact K0,K1,rR,(.of F)⟩
 have WA: ¬t<M.next.length:=by omega
 refine bJ ?_
 refine aB (ai (ad (aN eG F lJ F F) (ad (aQ 0 si F F F F) (ad (aZ F F) (ae (aC F (fun hc=>?_) (fun hc=>?_)))))))
 ·have OS:po.k=3:=by omega
  have s_:po.pp=Co M:=by rw[K0,show t=M.next.length by omega];rfl
  refine aB (T.dJ 72 5 ?_)
  refine aJ (aj F (aj F (ae (aA (ap ?_)))))
  refine cy nS (vI 4) Tryz.results14 F F ?_
  have h3:(Co M).1=3:=by rw[←s_];exact OS
  have e1:Ho M=[]:=if_pos h3
  have e2:KQ M=4:=if_pos h3
  exact⟨[am none 0 72 5 []],(by exact Sub.k .z),none,0,by rw[e1,e2];rfl,by rw[e1];rfl⟩
 have OT: ¬po.k=3:=by omega
 have s_:po.pp=Co M:=by rw[K0,show t=M.next.length by omega];rfl
 refine av (ai (ad (aN eG F fJ F F) (ad (aQ 0 cN F F F F) (aj F (aj F (ae (aA (ap ?_))))))))
 refine cy (.slice po.r.b po.r.e.length po.r.c) (vI 0) Tryz.results14 F F ?_
 have h3: ¬(Co M).1=3:=by rw[←s_];exact OT
 have e1:Ho M=po.r.e:=(if_neg h3).trans (by rw[←s_];rfl)
 have e2:KQ M=0:=if_neg h3
 have ue:po.r.e≠ []:=by
  have:=(ph (m:=M) KS M.next.length).ne h3
  rw[show wv M M.next.length=po.pp from s_.symm]at this;exact this
 exact⟨[po.r.qG 72],bn (List.singleton_sublist.2 (List.mem_append_right _ (List.mem_append_left _ (List.mem_map.2 ⟨po.r,K1.resolve_right ue,F⟩)))),po.r.b,po.r.c,by rw[e1,e2];rfl,by rw[e1];rfl⟩
end Go.Proofs.YtgdbfideeeegmaaGreatDoor

namespace Go.Lx
open Go.RowKit Go.Proofs.YtgdbfideeeegmaaGreatDoor
def iy:bU:=⟨1,0,[[0,1],[2,3],[0,1],[2,3]],[false,false,true,true]⟩
def Nf:bU:=⟨0,0,[[1],[2],[2]],[false,true,false]⟩
theorem FB:Valid iy:=dq.1 (by decide)
theorem FC:Valid Nf:=dq.1 (by decide)
theorem K_:gJ Nf=Nf:=by kernel_rfl
theorem La:Ho Nf=DQ:=by kernel_rfl
theorem Lb:KQ Nf=0:=by kernel_rfl
theorem Lc:gJ iy=iy:=by kernel_rfl
theorem SY:wy wx=.jl (.star (.letter 0 0)) (.jl (.letter 1 0) (.letter 0 0)):=by kernel_rfl
theorem Ld:wy rk=.jl (.ahead (.jl (.letter 0 0) (.letter 2 0))) (.star (.letter 0 0)):=by kernel_rfl
theorem Vt {v:Nat} (hv:v≤6) (p n:Nat) {B:Nat} (hB:3≤B):iP v (.letter p n) B:=Nat.le_trans (ug (ft p n) hv (Nat.le_refl 1)).qL.len hB
theorem tU {v:Nat} (hv:v≤6) (p n:Nat):eF (v:Int) 3 (minOf v (gd (.letter p n))) (gd (.letter p n)):=dH hv (by decide) (t:=.letter p n) F (Vt hv p n (Nat.le_refl 3))
theorem WJ {v:Nat} (hv:v≤6):iP v (.star (.letter 0 0)) 4096:=
 ⟨Vt hv 0 0 (by decide),Aw (tU hv 0 0).valid (Nat.le_trans (Nat.pow_le_pow_right (by decide) (Nat.succ_le_succ (tU hv 0 0).len)) (by decide))⟩
theorem Y1 {v:Nat} (hv:v≤6) (p n q m:Nat):iP v (.jl (.letter p n) (.letter q m)) 4096:=
 ⟨Vt hv p n (by decide),Vt hv q m (by decide),ng (tU hv p n).valid (tU hv q m).valid (Nat.le_trans (Nat.mul_le_mul (tU hv p n).len (Nat.pow_le_pow_right (by decide) (tU hv q m).len)) (by decide))⟩
theorem SZ {v:Nat} (hv:v≤6) (p n q m:Nat):eF (v:Int) 24 (minOf v (gd (.jl (.letter p n) (.letter q m)))) (gd (.jl (.letter p n) (.letter q m))):=
 kH hv (by decide) (tU hv p n).toHasL (tU hv q m).toHasL (ng (tU hv p n).valid (tU hv q m).valid (Nat.mul_le_mul (tU hv p n).len (Nat.pow_le_pow_right (by decide) (tU hv q m).len)))
theorem Ax (u:List Nat):pQ (gd (.letter 0 0)) u=true:=by
 rw[so]
 induction u with
 |nil=>exact .nil
 |cons x u ih=>
  refine gC.qR (x:=[x]) ?_ ih
  show([x].length==1&& [x].all (ft 0 0))=true
  simp[ft]
theorem Le {p n:Nat} {y:List Nat} (h:gd (.letter p n) y=true): ∃x,y=[x]∧ft p n x=true:=by
 have h:(y.length==1&&y.all (ft p n))=true:=h
 rw[Bool.and_eq_true,beq_iff_eq]at h
 obtain⟨x,rfl⟩:=List.length_eq_one_iff.1 h.1
 exact⟨x,F,by simpa using h.2⟩
theorem Ng {v:Nat} (hv:v≤6):HasL (v:Int) 1 (eo (v:Int) true) (gd (.star (.letter 0 0))):=
 ⟨(eR hv).valid,(eR hv).len,F,fun w hw=>by rw[(eR hv).gq w hw];exact(Ax w).symm⟩
theorem HL {p n q m:Nat} {w:List Nat}:gd (.jl (.letter p n) (.letter q m)) w=true↔ ∃a b,w=[a,b]∧ft p n a=true∧ft q m b=true:=by
 constructor
 ·intro h
  obtain⟨y1,y2,rfl,h3,h4⟩:=ju.1 h
  obtain⟨a,rfl,ha⟩:=Le h3
  obtain⟨b,rfl,hb⟩:=Le h4
  exact⟨a,b,F,ha,hb⟩
 ·rintro⟨a,b,rfl,ha,hb⟩
  refine ju.2 ⟨[a],[b],F,?_,?_⟩
  ·show([a].length==1&& [a].all (ft p n))=true
   simp[ha]
  ·show([b].length==1&& [b].all (ft q m))=true
   simp[hb]
theorem sink {E:bU} {L s:Nat} (h: ∀x,x<L→dY E s x=s): ∀(u:List Nat),(∀x∈u,x<L)→runN E s u=s
 | [],_=>rfl
 |x::u,hu=>by
  show runN E (dY E s x) u=s
  rw[h x (hu x (by simp))]
  exact sink h u fun y hy=>hu y (by simp[hy])
def O7:bU:=⟨1,0,[[1,2],[1,1],[3,3],[1,1]],[false,false,false,true]⟩
theorem Lh:HasL (1:Nat) 4 O7 (gd (.jl (.letter 1 0) (.letter 0 0))):=by
 refine⟨dq.1 (by decide),by decide,F,fun w hw=>?_⟩
 have hs:=sink (E:=O7) (L:=2) (s:=1) (by decide)
 rw[Bool.eq_iff_iff,HL]
 match w,hw with
 | [],_=>exact⟨fun h=>absurd h (by decide),fun⟨a,b,h,_⟩=>by cases h⟩
 | [a],hw=>
  have: ∀a,a<2→gq O7 [a]=false:=by decide
  exact⟨fun h=>absurd h (by rw[this a (hw a (by simp))];decide),fun⟨a,b,h,_⟩=>by cases h⟩
 | [a,b],hw=>
  have: ∀a,a<2→ ∀b,b<2→gq O7 [a,b]=ft 1 0 a:=by decide
  rw[this a (hw a (by simp)) b (hw b (by simp))]
  exact⟨fun h=>⟨a,b,F,h,by simp[ft]⟩,fun⟨a',b',h,h2,_⟩=>by cases h;exact h2⟩
 |a::b::c::u,hw=>
  have: ∀a,a<2→ ∀b,b<2→ ∀c,c<2→runN O7 0 [a,b,c]=1:=by decide
  refine⟨fun h=>?_,fun⟨a,b,h,_⟩=>by cases h⟩
  have h:cF O7 (runN O7 0 ([a,b,c]++u))=true:=h
  rw[iW,this a (hw a (by simp)) b (hw b (by simp)) c (hw c (by simp)),hs u fun x hx=>hw x (by simp[hx])]at h
  exact absurd h (by decide)
theorem WK:wA 1 wx 4096:=by
 unfold wA;rw[if_neg (by decide),SY]
 have h1:=dH (v:=1) (by decide) (Nat.le_refl 4096) (t:=.star (.letter 0 0)) F (WJ (by decide))
 have h2:=SZ (v:=1) (by decide) 1 0 0 0
 exact⟨WJ (by decide),Y1 (by decide) 1 0 0 0,ng h1.valid h2.valid (Nat.le_trans (Nat.mul_le_mul (h1.xt (Ng (by decide))) (Nat.pow_le_pow_right (by decide) (h2.xt Lh))) (by decide))⟩
def Li:bU:=⟨2,0,[[1,1,1,1],[2,2,3,3],[2,2,2,2],[3,3,3,3]],[false,false,false,true]⟩
theorem Lj:eF (2:Nat) 4 Li (ki (gd (.jl (.letter 0 0) (.letter 2 0))) fun _=>true):=by
 refine⟨⟨dq.1 (by decide),by decide,F,fun w hw=>?_⟩,by kernel_rfl⟩
 have s2:=sink (E:=Li) (L:=4) (s:=2) (by decide)
 have s3:=sink (E:=Li) (L:=4) (s:=3) (by decide)
 rw[Bool.eq_iff_iff,ju]
 have ue: ∀x y:List Nat,w=x++y→gd (.jl (.letter 0 0) (.letter 2 0)) x=true→ ∃a b,w=a::b::y∧ft 2 0 b=true:=fun x y h h2=>by
  obtain⟨a,b,rfl,_,hb⟩:=HL.1 h2
  exact⟨a,b,h,hb⟩
 match w,hw,ue with
 | [],_,ue=>exact⟨fun h=>absurd h (by decide),fun⟨x,y,h,h2,_⟩=>by obtain⟨a,b,h3,_⟩:=ue x y h h2;cases h3⟩
 | [a],hw,ue=>
  have: ∀a,a<4→gq Li [a]=false:=by decide
  exact⟨fun h=>absurd h (by rw[this a (hw a (by simp))];decide),fun⟨x,y,h,h2,_⟩=>by obtain⟨a,b,h3,_⟩:=ue x y h h2;cases h3⟩
 |a::b::u,hw,ue=>
  have hu: ∀x∈u,x<4:=fun x hx=>hw x (by simp[hx])
  have e:gq Li (a::b::u)=ft 2 0 b:=by
   have: ∀a,a<4→ ∀b,b<4→runN Li 0 [a,b]=if ft 2 0 b=true then 3 else 2:=by decide
   show cF Li (runN Li 0 ([a,b]++u))=_
   rw[iW,this a (hw a (by simp)) b (hw b (by simp))]
   split
   ·rename_i h;rw[s3 u hu,h];rfl
   ·rename_i h;rw[s2 u hu,Bool.eq_false_iff.2 h];rfl
  rw[e]
  exact⟨fun h=>⟨[a,b],u,F,HL.2 ⟨a,b,F,by simp[ft],h⟩,F⟩,fun⟨x,y,h,h2,_⟩=>by obtain⟨a',b',h3,h4⟩:=ue x y h h2;cases h3;exact h4⟩
def WL:bU:=⟨2,0,[[0,0,0,0]],[true]⟩
theorem Lk:eF (2:Nat) 4 WL (gd (.star (.letter 0 0))):=by
 have h:=Ng (v:=2) (by decide)
 rw[show eo ((2:Nat):Int) true=WL by kernel_rfl]at h
 exact⟨h.le (by decide),by kernel_rfl⟩
def Kf:List Lf:=[⟨9,Li,[1],false⟩,⟨0,WL,[],true⟩]
theorem FD:lD 2 (wy rk)=Kf∧HM 2 (wy rk)=[0]:=by
 rw[Ld]
 have e1:lD 2 (.jl (.ahead (.jl (.letter 0 0) (.letter 2 0))) (.star (.letter 0 0)))=[⟨9,minOf 2 (ki (gd (.jl (.letter 0 0) (.letter 2 0))) fun _=>true),[1],false⟩,⟨0,minOf 2 (gd (.star (.letter 0 0))),[],true⟩]:=rfl
 rw[e1,←fD Lj (by decide),←fD Lk (by decide)]
 exact⟨F,F⟩
theorem S0:okB 2 (wy rk) 4096:=by
 rw[Ld]
 have h2:=SZ (v:=2) (by decide) 0 0 2 0
 have hs:=eR (v:=2) (by decide)
 exact⟨⟨Y1 (by decide) 0 0 2 0,ng h2.valid hs.valid (Nat.le_trans (Nat.mul_le_mul h2.len (Nat.pow_le_pow_right (by decide) hs.len)) (by decide))⟩,WJ (by decide)⟩
theorem O8:gN Kf 2:=by
 have h:=HN (v:=2) (by decide) (Nat.le_refl 4096) (t:=wy rk) (by rw[Ld];rfl) (by rw[Ld];decide) S0
 rw[FD.1]at h;exact h
theorem WM:wA 2 rk 4096:=by
 unfold wA;rw[if_pos (by decide)]
 refine⟨S0,?_⟩
 unfold O9
 rw[FD.1,FD.2]
 exact O_ O8 ⟨F,F,F,F,F,F,F⟩ (by decide)
theorem S1:oC (lD 2 (wy rk)) 19:=by rw[FD.1];exact DR (by decide)
theorem S3: ∀r,r<4→ ∀a,a<2→ ∀b,b<2→dY iy (dY iy r a) b=2*a+b:=by decide
theorem S4: ∀a,a<2→ ∀b,b<2→cF iy (2*a+b)=ft 1 0 a:=by decide
theorem Cu: ∀(u:List Nat) (r:Nat),r<4→nT (1:Nat) u→runN iy r u<4
 | [],r,h,_=>h
 |x::u,r,h,hw=>by
  have hx:x<2:=hw x (by simp)
  have: ∀r,r<4→ ∀a,a<2→dY iy r a<4:=by decide
  exact Cu u (dY iy r x) (this r h x hx) fun y hy=>hw y (by simp[hy])
theorem Ll (w:List Nat) (hw:nT (1:Nat) w):gq iy w=gd (wy wx) w:=by
 rw[SY,Bool.eq_iff_iff]
 constructor
 ·intro h
  rcases List.eq_nil_or_concat w with rfl|⟨x,b,rfl⟩
  ·exact absurd h (by decide)
  ·rcases List.eq_nil_or_concat x with rfl|⟨x,a,rfl⟩
   ·have hb:b<2:=hw b (by simp)
    have: ∀b,b<2→gq iy [b]=false:=by decide
    have h:gq iy [b]=true:=h
    rw[this b hb]at h;cases h
   ·rw[List.concat_eq_append,List.concat_eq_append]at*
    have ha:a<2:=hw a (by simp)
    have hb:b<2:=hw b (by simp)
    have hx:runN iy 0 x<4:=Cu x 0 (by decide) fun y hy=>hw y (by simp[hy])
    have h:cF iy (runN iy 0 (x++[a]++[b]))=true:=h
    rw[iW,iW]at h
    have h:cF iy (dY iy (dY iy (runN iy 0 x) a) b)=true:=h
    rw[S3 _ hx a ha b hb,S4 a ha b hb]at h
    refine ju.2 ⟨x,[a]++[b],by simp,Ax x,ju.2 ⟨[a],[b],F,?_,?_⟩⟩
    ·show([a].length==1&& [a].all (ft 1 0))=true
     simp[h]
    ·show([b].length==1&& [b].all (ft 0 0))=true
     simp[ft]
 ·intro h
  obtain⟨x,y,rfl,_,h2⟩:=ju.1 h
  obtain⟨y1,y2,rfl,h3,h4⟩:=ju.1 h2
  obtain⟨a,rfl,ha⟩:=Le h3
  obtain⟨b,rfl,_⟩:=Le h4
  have Sj:a<2:=hw a (by simp)
  have zM:b<2:=hw b (by simp)
  have hx:runN iy 0 x<4:=Cu x 0 (by decide) fun y hy=>hw y (by simp[hy])
  show cF iy (runN iy 0 (x++([a]++[b])))=true
  rw[iW,iW]
  show cF iy (dY iy (dY iy (runN iy 0 x) a) b)=true
  rw[S3 _ hx a Sj b zM,S4 a Sj b zM,ha]
theorem HO:eF (1:Nat) 4096 iy (oD 1 wx):=by
 unfold oD;rw[if_neg (by decide)]
 exact⟨⟨FB,by decide,F,Ll⟩,Lc⟩
theorem S5 {M:bU} (h:eF (1:Nat) 4096 M (oD 1 wx)):M=iy:=eF.ext h HO fun _ _=>rfl
theorem Pb {M:bU} (h:eF (2:Nat) 4096 M (oD 2 rk)) {u:List Nat} (hu: ∀x∈u,x<4) (hl:u.length≤64):j7 M u=0∧E5 M u=ql (u.foldl (li Kf) (jU Kf [0])):=by
 have hw:nT (2:Nat) u:=hu
 have h0:j7 M u=0:=sq.2 ⟨h.valid,hl,h.toHasL.wd.2 hw⟩
 refine⟨h0,?_⟩
 rw[E4 h0,h.gq u hw]
 unfold oD Vu;rw[if_pos (by decide),FD.1,FD.2]
theorem Pc:ql ([0,3,0].foldl (li Kf) (jU Kf [0]))=true:=by decide+kernel
theorem Pd:ql ([3,1,2].foldl (li Kf) (jU Kf [0]))=false:=by decide+kernel
end Go.Lx

namespace Go.Proofs.YtgdbfideeeegmaaGreatDoor
open Go.Lx Go.RowKit _root_.Go.Proofs.Tryz
theorem S6 {w:World} {d:bU} {k:DK} (h1:Sl w k.nb (bO k.qs)) (h2:nums k.qs=d.next) (h3: ∀r∈k.qs,Sl w r.b (ints r.xs)) (h4:Sl w k.fb (bf d.ax)):At w d k:=by
 refine⟨h1,?_,h4⟩
 rw[←h2]
 refine⟨by unfold bO nums;rw[List.length_map,List.length_map],fun i r hr=>?_⟩
 unfold nums at hr
 rw[List.getElem?_map]at hr
 obtain⟨q,hq,rfl⟩:=Option.map_eq_some_iff.1 hr
 exact⟨q.b,q.c,by unfold bO;rw[List.getElem?_map,hq];rfl,h3 q (List.mem_of_getElem? hq)⟩
theorem Lm (w:World) [cG Tryz.prog w] [cG Tryz.prog w] (b:Option Addr) (c:Nat) (h:Sl w b (bg wx)):bI Tryz.prog 19 [.slice b wx.length c,vI 1,vI 4096] w fun v N=> ∃k,v=.tuple #[dV iy k,vI 0]∧N=[dI 56 4 3 iy k]:=by
 refine(DS (HP w b c wx h (by decide) (by decide) 1 4096 (fun h=>absurd h (by decide)) (K:=0) (by decide) (fun _=>rl (by decide)) (fun _ h=>absurd h (by decide)))).mono fun v N=>?_
 rintro⟨D,k,er,rfl,rfl,⟨h1,_⟩|⟨_,h1,_⟩|⟨_,_,⟨rfl,hM,_⟩|⟨_,_,h1⟩⟩⟩
 ·exact absurd SS h1
 ·exact absurd ⟨by decide,by decide⟩ h1
 ·have e:=S5 hM
  subst e
  exact⟨k,F,F⟩
 ·exact absurd WK h1
theorem Ln (w:World) [cG Tryz.prog w] [cG Tryz.prog w] (b:Option Addr) (c:Nat) (h:Sl w b (bg rk)):bI Tryz.prog 19 [.slice b rk.length c,vI 2,vI 4096] w fun v N=> ∃M k,v=.tuple #[dV M k,vI 0]∧N=[dI 56 4 3 M k]∧eF (2:Nat) 4096 M (oD 2 rk):=by
 refine(DS (HP w b c rk h (by decide) (by decide) 2 4096 (fun _=>by decide) (K:=19) (by decide) (fun _=>rl (by decide)) (fun _ _ _=>S1))).mono fun v N=>?_
 rintro⟨D,k,er,rfl,rfl,⟨h1,_⟩|⟨_,h1,_⟩|⟨_,_,⟨rfl,hM,_⟩|⟨_,_,h1⟩⟩⟩
 ·exact absurd SU h1
 ·exact absurd ⟨by decide,by decide⟩ h1
 ·exact⟨D,k,F,F,hM⟩
 ·exact absurd WM h1
theorem Nh (w:World) [cG Tryz.prog w] [cG Tryz.prog w] {M:bU} (hM:eF (2:Nat) 4096 M (oD 2 rk)) (k:DK) (h:At w M k) (wb:Option Addr) (wc:Nat) (l:List Nat) (hW:Sl w wb (x7 l)) (h4: ∀x∈l,x<4) (hl:l.length=3) (x:Bool) (hx:ql (l.foldl (li Kf) (jU Kf [0]))=x):bI Tryz.prog 29 [dV M k,.slice wb 3 wc] w fun v N=>v=.tuple #[.bool x,vI 0]∧N=[]:=by
 obtain⟨h1,h2⟩:=Pb hM h4 (by omega)
 have hb:=uz hM.toHasL
 have h9:=HQ w M k.nb k.fb k.nc k.fc (bO k.qs) h hb.1 hb.2.1 hb.2.2 wb wc l hW (by omega) (fun x h=>by have:=h4 x h;omega)
 rw[h1,h2,hx,hl]at h9
 exact h9
theorem eqS (w:World) [cG Tryz.prog w] [cG Tryz.prog w] (j k:DK) (h1:At w iy j) (h2:At w iy k):bI Tryz.prog 16 [dV iy j,dV iy k] w fun v N=>v=.bool true∧N=[]:=
 (qJ (zm w iy iy j.nb k.nb j.fb k.fb j.nc k.nc j.fc k.fc (bO j.qs) (bO k.qs) h1 h2 (by decide) (by decide) (by decide))).mono fun v N ⟨h1,O2,h2,_⟩=>⟨h2.trans (congrArg Value.bool (decide_eq_true F)),h1⟩
theorem S7 (w:World) [cG Tryz.prog w] [cG Tryz.prog w] (k:DK) (h:At w Nf k):bI Tryz.prog 14 [dV Nf k] w fun v N=> ∃b c,v=.tuple #[.slice b DQ.length c,vI 0]∧N=[am b c 72 5 (bg DQ)]:=by
 have h9:=Se w Nf k h FC (by decide) K_
 rw[La,Lb]at h9
 exact h9
theorem yt (w:World) [cG Tryz.prog w]:bI Tryz.prog 11 [] w fun v N=>v=.bool true∧N=[]:=by
 refine aw func11 F ntmps11 F ?_
 refine ai (aj F (ae (ai (ak F (aP HR (aW SV) F ?_)))))
 rintro vr O' ⟨N,rfl,b1,c1,rfl,rfl⟩
 refine ak F (aP DT (aI fun w1 hI=>(haveI:=di hI;Lm w1 b1 c1 (hI.fV (mG 0 F)))) F ?_)
 rintro vr O' ⟨N,rfl,k1,rfl,rfl⟩
 refine ah F (ad (aV (vs:=_) F F) (ad (aV (vs:=_) F F) (ak F (aR aY F (fun z1=>?_)))))
 refine ak F (a8 (vs:=(dC iy k1)) 0 aY F F F F ?_)
 refine aj F ?_
 refine cQ (O':=[oI z1 25 (dC iy k1),dI 56 4 3 iy k1]) (by exact Sub.k (.k .z)) ?_
 refine ae (ai (ak F (bH (m:=2) (parts:=[(0,.const (vI 0)),(1,.const (vI 1))]) (cs:=[vI 0,vI 1]) bK aO (by decide) (by kernel_rfl) F (fun z2=>?_))))
 refine ak F (bH (m:=2) (parts:=[(0,.const (vI 2)),(1,.const (vI 3))]) (cs:=[vI 2,vI 3]) bK aO (by decide) (by kernel_rfl) F (fun z3=>?_))
 refine ak F (bH (m:=2) (parts:=[(0,.const (vI 0)),(1,.const (vI 1))]) (cs:=[vI 0,vI 1]) bK aO (by decide) (by kernel_rfl) F (fun z4=>?_))
 refine ak F (bH (m:=2) (parts:=[(0,.const (vI 2)),(1,.const (vI 3))]) (cs:=[vI 2,vI 3]) bK aO (by decide) (by kernel_rfl) F (fun z5=>?_))
 refine ak F (bH (m:=4) (parts:=[(0,.tmp 17),(1,.tmp 18),(2,.tmp 19),(3,.tmp 20)]) (cs:=[(.slice (aD z2) 2 2),(.slice (aD z3) 2 2),(.slice (aD z4) 2 2),(.slice (aD z5) 2 2)]) du bV (by decide) (by kernel_rfl) F (fun z6=>?_))
 refine ak F (bH (m:=4) (parts:=[(0,.const (.bool false)),(1,.const (.bool false)),(2,.const (.bool true)),(3,.const (.bool true))]) (cs:=[.bool false,.bool false,.bool true,.bool true]) df dU (by decide) (by kernel_rfl) F (fun z7=>?_))
 refine ad (bG (cs:=[vI 1,(vI 0),(.slice (aD z6) 4 4),(.slice (aD z7) 4 4)]) gD aY (by kernel_rfl)) (ak F (aR aY F (fun z8=>?_)))
 refine ak F (a8 (vs:=[vI 1,(vI 0),(.slice (aD z6) 4 4),(.slice (aD z7) 4 4)]) 0 aY F F F F ?_)
 refine ae ?_
 refine ck (O':=[am (aD z6) 4 56 1 [(.slice (aD z2) 2 2),(.slice (aD z3) 2 2),(.slice (aD z4) 2 2),(.slice (aD z5) 2 2)],am (aD z7) 4 4 1 [.bool false,.bool false,.bool true,.bool true],am (aD z2) 2 3 1 [vI 0,vI 1],am (aD z3) 2 3 1 [vI 2,vI 3],am (aD z4) 2 3 1 [vI 0,vI 1],am (aD z5) 2 3 1 [vI 2,vI 3],oI z8 25 [vI 1,(vI 0),(.slice (aD z6) 4 4),(.slice (aD z7) 4 4)],oI z1 25 (dC iy k1),dI 56 4 3 iy k1]) (by exact Sub.dr [oI z8 25 [vI 1,(vI 0),(.slice (aD z6) 4 4),(.slice (aD z7) 4 4)],am (aD z7) 4 4 1 [.bool false,.bool false,.bool true,.bool true]] _ (.dr [oI z8 25 [vI 1,(vI 0),(.slice (aD z6) 4 4),(.slice (aD z7) 4 4)]] _ (.dr [oI z8 25 [vI 1,(vI 0),(.slice (aD z6) 4 4),(.slice (aD z7) 4 4)],am (aD z5) 2 3 1 [vI 2,vI 3],am (aD z4) 2 3 1 [vI 0,vI 1],am (aD z3) 2 3 1 [vI 2,vI 3]] _ (.dr [oI z8 25 [vI 1,(vI 0),(.slice (aD z6) 4 4),(.slice (aD z7) 4 4)],am (aD z5) 2 3 1 [vI 2,vI 3],am (aD z4) 2 3 1 [vI 0,vI 1]] _ (.dr [oI z8 25 [vI 1,(vI 0),(.slice (aD z6) 4 4),(.slice (aD z7) 4 4)],am (aD z5) 2 3 1 [vI 2,vI 3]] _ (.dr [oI z8 25 [vI 1,(vI 0),(.slice (aD z6) 4 4),(.slice (aD z7) 4 4)]] _ (.k (.k (.k .z))))))))) ?_
 obtain⟨k3,rm⟩: ∃k:DK,k=⟨some ⟨z6,0,none⟩,4,some ⟨z7,0,none⟩,4,[⟨some ⟨z2,0,none⟩,2,[0,1]⟩,⟨some ⟨z3,0,none⟩,2,[2,3]⟩,⟨some ⟨z4,0,none⟩,2,[0,1]⟩,⟨some ⟨z5,0,none⟩,2,[2,3]⟩]⟩:=⟨_,F⟩
 refine ck (O':=(([am k3.nb k3.nc 56 1 (bO k3.qs),am k3.fb k3.fc 4 1 (bf iy.ax)]++a_ 3 k3.qs)++[oI z8 25 [vI 1,(vI 0),(.slice (aD z6) 4 4),(.slice (aD z7) 4 4)],oI z1 25 (dC iy k1),dI 56 4 3 iy k1])) (by subst rm;exact Sub.rf) ?_
 refine ol (φ:=nums k3.qs=iy.next) (by subst rm;rfl) ?_
 refine ck (O':=[dI 56 4 3 iy k3,oI z8 25 (dC iy k3),oI z1 25 (dC iy k1),dI 56 4 3 iy k1]) (by subst rm;exact Sub.rf) ?_
 refine ai (ak F (aP HR (aW SW) F ?_))
 rintro vr O' ⟨N,rfl,b2,c2,rfl,rfl⟩
 refine ak F (aP DT (aI fun w1 hI=>(haveI:=di hI;Ln w1 b2 c2 (hI.fV (mG 0 F)))) F ?_)
 rintro vr O' ⟨N,rfl,M,k2,rfl,rfl,hM⟩
 refine ah F (ad (aV (vs:=_) F F) (ad (aV (vs:=_) F F) (ak F (aR aY F (fun z9=>?_)))))
 refine ak F (a8 (vs:=(dC M k2)) 0 aY F F F F ?_)
 refine aj F ?_
 refine cQ (O':=[oI z9 25 (dC M k2),oI z8 25 (dC iy k3),oI z1 25 (dC iy k1),dI 56 4 3 M k2,dI 56 4 3 iy k3,dI 56 4 3 iy k1]) (by exact Sub.k (.dr [dI 56 4 3 M k2,am b2 c2 72 5 (bg rk),dI 56 4 3 iy k3] _ (.dr [dI 56 4 3 M k2,am b2 c2 72 5 (bg rk),dI 56 4 3 iy k3] _ (.k (.d (.k (.k .z))))))) ?_
 refine ae (ai (ad (dh 0 bW F aY F F F) (ak F (bH (m:=3) (parts:=[(0,.const (.int .u8 0)),(1,.const (.int .u8 3)),(2,.const (.int .u8 0))]) (cs:=[.int .u8 0,.int .u8 3,.int .u8 0]) lj cI (by decide) (by kernel_rfl) F (fun nC=>?_)))))
 refine ak F (aP Ni (aI fun w1 hI=>(haveI:=di hI;Nh w1 hM k2 (hI.at (mG 4 F)) (aD nC) 3 [0,3,0] (hI.fV (cs:=x7 [0,3,0]) (mG 0 F)) (by decide) F _ Pc)) F ?_)
 rintro vr O' ⟨N,rfl,rfl,rfl⟩
 refine ah F (ad (aV (vs:=_) F F) (ad (aV (vs:=_) F F) (aj F (aj F ?_))))
 refine cQ (O':=[oI z9 25 (dC M k2),oI z8 25 (dC iy k3),oI z1 25 (dC iy k1),dI 56 4 3 M k2,dI 56 4 3 iy k3,dI 56 4 3 iy k1]) (by exact Sub.d (.k (.k (.k (.k (.k (.k .z))))))) ?_
 refine ae (ai (ad (dh 0 bW F aY F F F) (ak F (bH (m:=3) (parts:=[(0,.const (.int .u8 3)),(1,.const (.int .u8 1)),(2,.const (.int .u8 2))]) (cs:=[.int .u8 3,.int .u8 1,.int .u8 2]) lj cI (by decide) (by kernel_rfl) F (fun tR=>?_)))))
 refine ak F (aP Ni (aI fun w1 hI=>(haveI:=di hI;Nh w1 hM k2 (hI.at (mG 4 F)) (aD tR) 3 [3,1,2] (hI.fV (cs:=x7 [3,1,2]) (mG 0 F)) (by decide) F _ Pd)) F ?_)
 rintro vr O' ⟨N,rfl,rfl,rfl⟩
 refine ah F (ad (aV (vs:=_) F F) (ad (aV (vs:=_) F F) (aj F (aj F ?_))))
 refine cQ (O':=[oI z9 25 (dC M k2),oI z8 25 (dC iy k3),oI z1 25 (dC iy k1),dI 56 4 3 M k2,dI 56 4 3 iy k3,dI 56 4 3 iy k1]) (by exact Sub.d (.k (.k (.k (.k (.k (.k .z))))))) ?_
 refine ae (ai (ak F (bM (v:=vI 1) bK aO F F F (fun z12=>?_))))
 refine ak F (bM (v:=vI 2) bK aO F F F (fun lK=>?_))
 refine ak F (bM (v:=vI 2) bK aO F F F (fun xk=>?_))
 refine ak F (bH (m:=3) (parts:=[(0,.tmp 42),(1,.tmp 43),(2,.tmp 44)]) (cs:=[(.slice (aD z12) 1 1),(.slice (aD lK) 1 1),(.slice (aD xk) 1 1)]) du bV (by decide) (by kernel_rfl) F (fun u_=>?_))
 refine ak F (bH (m:=3) (parts:=[(0,.const (.bool false)),(1,.const (.bool true)),(2,.const (.bool false))]) (cs:=[.bool false,.bool true,.bool false]) df dU (by decide) (by kernel_rfl) F (fun S8=>?_))
 refine ad (bG (cs:=[(vI 0),(vI 0),(.slice (aD u_) 3 3),(.slice (aD S8) 3 3)]) gD aY (by kernel_rfl)) (ak F (aP S9 (aI fun w1 hI=>(haveI:=di hI;S7 w1 ⟨some ⟨u_,0,none⟩,3,some ⟨S8,0,none⟩,3,[⟨some ⟨z12,0,none⟩,1,[1]⟩,⟨some ⟨lK,0,none⟩,1,[2]⟩,⟨some ⟨xk,0,none⟩,1,[2]⟩]⟩ (S6 (hI.fV (mG 1 F)) F (List.forall_mem_cons.2 ⟨hI.fV (cs:=ints [1]) (mG 4 F),List.forall_mem_cons.2 ⟨hI.fV (cs:=ints [2]) (mG 3 F),List.forall_mem_cons.2 ⟨hI.fV (cs:=ints [2]) (mG 2 F),fun _ h=>by cases h⟩⟩⟩) (hI.fV (mG 0 rfl))))) rfl ?_))
 rintro vr O' ⟨N,rfl,b4,c4,rfl,rfl⟩
 refine ah F (ad (aV (vs:=_) F F) (ad (aV (vs:=_) F F) (aj F (aj F ?_))))
 refine cQ (O':=[oI z9 25 (dC M k2),oI z8 25 (dC iy k3),oI z1 25 (dC iy k1),am b4 c4 72 5 (bg DQ),dI 56 4 3 M k2,dI 56 4 3 iy k3,dI 56 4 3 iy k1]) (by exact Sub.dr [am b4 c4 72 5 (bg DQ),am (aD S8) 3 4 1 [.bool false,.bool true,.bool false],am (aD u_) 3 56 1 [(.slice (aD z12) 1 1),(.slice (aD lK) 1 1),(.slice (aD xk) 1 1)],am (aD xk) 1 3 1 [vI 2],am (aD lK) 1 3 1 [vI 2],am (aD z12) 1 3 1 [vI 1]] _ (.dr [am b4 c4 72 5 (bg DQ),am (aD S8) 3 4 1 [.bool false,.bool true,.bool false],am (aD u_) 3 56 1 [(.slice (aD z12) 1 1),(.slice (aD lK) 1 1),(.slice (aD xk) 1 1)],am (aD xk) 1 3 1 [vI 2],am (aD lK) 1 3 1 [vI 2],am (aD z12) 1 3 1 [vI 1]] _ (.dr [am b4 c4 72 5 (bg DQ),am (aD S8) 3 4 1 [.bool false,.bool true,.bool false],am (aD u_) 3 56 1 [(.slice (aD z12) 1 1),(.slice (aD lK) 1 1),(.slice (aD xk) 1 1)],am (aD xk) 1 3 1 [vI 2],am (aD lK) 1 3 1 [vI 2],am (aD z12) 1 3 1 [vI 1]] _ (.k (.d (.d (.d (.d (.d (.k (.k (.k .z)))))))))))) ?_
 refine ae (ai (ah F (ad (aq (aZ F F) (decide_eq_true (by first|rfl|decide))) (ah F (au F F (dh 2 bW F aY F F F) (au F F (dh 1 bW F aY F F F) ?_))))))
 refine fU F F F (aP Nj (aI fun w1 hI=>(haveI:=di hI;eqS w1 k1 k3 (hI.at (mG 6 F)) (hI.at (mG 5 F)))) F ?_)
 rintro vr O' ⟨N,rfl,rfl,rfl⟩
 refine ad (bu F F) (ah F (au F F (az F) (au F F (aq (aZ F F) (decide_eq_true (by first|rfl|decide))) (ad (bu F F) (ah F (au F F (az F) (ad (bu F F) (ah F (au F F (az F) (au F F (aq (aZ F F) (decide_eq_true (by first|rfl|decide))) ?_))))))))))
 refine ad (bu F F) (ah F (au F F (az F) (au F F (gy F) (ad (bu F F) (ah F (au F F (az F) (au F F (aq (aZ F F) (decide_eq_true (by first|rfl|decide))) (ad (bu F F) (ah F (au F F (az F) ?_))))))))))
 refine au F F (aq (aZ F F) (decide_eq_true (by first|rfl|decide))) (ad (bu F F) (ah F (au F F (az F) ?_)))
 refine fU F F F (aP HR (aW SX) F ?_)
 rintro vr O' ⟨N,rfl,b3,c3,rfl,rfl⟩
 refine fU F F F (aP S_ (aI fun w1 hI=>(haveI:=di hI;(show bI _ _ _ _ _ from by
   have h9:=Lo w1 b4 b3 c4 c3 DQ DQ (hI.fV (mG 4 F)) (hI.fV (mG 0 F)) (by decide)
   rw[decide_eq_true F]at h9
   exact h9))) F ?_)
 rintro vr O' ⟨N,rfl,rfl,rfl⟩
 refine ad (bu F F) (aj F (ae (aA (ap ?_))))
 refine aE (.bool true) Tryz.results11 F ?_
 exact⟨[],Sub.z,F,F⟩
end Go.Proofs.YtgdbfideeeegmaaGreatDoor

namespace Go.Proofs.YtgdbfideeeegmaaGreatDoor
open Go.Lx Go.RowKit _root_.Go.Proofs.Tryz
theorem GM (w:World) [cG Tryz.prog w] (b:Option Addr) (c:Nat) (e:List dF) (hE:Sl w b (bg e)) (CX:e.length<4611686018427387904) (nK: ∀x∈e,x.p<256∧x.n<256) (vars gR:Int):
  bI Tryz.prog 4 [.slice b e.length c,vI vars,vI gR] w fun r N=>r=.bool true∧N=[]:=by
 refine aw func4 F ntmps4 F ?_
 refine ai (aj F (ae ?_))
 refine e7 (fun ρ O=>Sub [] O∧(e.length≤24∧1≤gR∧gR≤4096)∧cw [(0,(.slice b e.length c)),(1,vI vars),(2,vI gR)] ρ) ?_ ?_
 ·refine aB ?_
  refine aJ (ah F (ak F (aP Uy (aI fun w1 hI=>(haveI:=di hI;UZ w1 b e.length c)) F ?_)))
  rintro vr O' ⟨N,rfl,rfl,rfl⟩
  by_cases U0:(24:Int)<((e.length:Nat):Int)
  ·refine ad (aq (az F) (decide_eq_true U0)) ?_
   refine aF F F (aF F F (ad (bu F F) (ah F (aF F F (aF F F (ad (bu F F) (ah F (aF F F (aF F F ?_)))))))))
   refine ad (bu F F) (ae ?_)
   refine bj F ?_
   refine ai (ak F (aP Eg (aW yt) F ?_))
   rintro vr O' ⟨N,rfl,rfl,rfl⟩
   refine aj F (ae (aA (ap ?_)))
   refine aE (.bool true) Tryz.results4 F ?_
   exact⟨[],Sub.z,F,F⟩
  refine ad (aq (az F) (decide_eq_false U0)) ?_
  refine fU F F F (aP Eg (aW yt) F ?_)
  rintro vr O' ⟨N,rfl,rfl,rfl⟩
  refine au F F (gy F) (ad (bl F F) (ah F (au F F (az F) (au F F (bT F F) (ad (bl F F) ?_)))))
  by_cases U1:gR<1
  ·refine ad (aq (az F) (decide_eq_true U1)) ?_
   refine aF F F (aF F F (ad (bu F F) (ae ?_)))
   refine bj F ?_
   refine ai (ak F (aP Eg (aW yt) F ?_))
   rintro vr O' ⟨N,rfl,rfl,rfl⟩
   refine aj F (ae (aA (ap ?_)))
   refine aE (.bool true) Tryz.results4 F ?_
   exact⟨[],Sub.z,F,F⟩
  refine ad (aq (az F) (decide_eq_false U1)) (au F F (az F) (au F F (fW F F) (ad (bl F F) (ae (aC F (fun hc=>?_) (fun hc=>?_))))))
  ·refine aB ?_
   refine aJ (ak F (aP Eg (aW yt) F ?_))
   rintro vr O' ⟨N,rfl,rfl,rfl⟩
   refine aj F (ae (aA (ap ?_)))
   refine aE (.bool true) Tryz.results4 F ?_
   exact⟨[],Sub.z,F,F⟩
  refine av ?_
  exact⟨(by exact Sub.rf),⟨by omega,by omega,by omega⟩,⟨F,F,F,trivial⟩⟩
 rintro ρ O ⟨hS,⟨MV,Cd,zM⟩,hH⟩
 obtain⟨fE,rfl⟩:=hH.elim
 clear hH
 refine ck hS ?_
 refine ai (ah F (ah F (ak F (aP DT (aI fun w1 hI=>(haveI:=di hI;N8 w1 b c e (hI.sl hE) CX nK vars 4096 (fun _=>MV))) F ?_))))
 rintro vr O' ⟨N,rfl,D1,k1,J1,rfl,rfl,hF1⟩
 refine ah F (ad (aV (vs:=_) F F) (ad (aV (vs:=_) F F) (ak F (aR aY F (fun z1=>?_)))))
 refine ak F (a8 (vs:=(dC D1 k1)) 0 aY F F F F ?_)
 refine aj F (ae (ai (ah F (ah F (ah F (ak F (aP DT (aI fun w1 hI=>(haveI:=di hI;N8 w1 b c e (hI.sl hE) CX nK vars gR (fun _=>MV))) F ?_)))))))
 rintro vr O' ⟨N,rfl,D2,k2,Ks,rfl,rfl,BS⟩
 refine ah F (ad (aV (vs:=_) F F) (ad (aV (vs:=_) F F) (ak F (aR aY F (fun z2=>?_)))))
 refine ak F (a8 (vs:=(dC D2 k2)) 0 aY F F F F ?_)
 refine aj F (ae ?_)
 refine Fs [oI z2 25 (dC D2 k2),dI 56 4 3 D2 k2,oI z1 25 (dC D1 k1),dI 56 4 3 D1 k1] [(0,(.slice b e.length c)),(1,vI vars),(2,vI gR),(7,(.pointer (aD z1))),(8,vN J1),(9,(.pointer (aD z2))),(10,vN Ks)] F (.of F) (fun fE=>?_)
 refine aB (aB ?_)
 have hB:=X8 ⟨Cd,zM⟩ hF1 BS
 refine aJ (ah F (ad (cT F F) (ae (aC F (fun hc=>?_) (fun hc=>?_)))))
 ·have tp:J1≠0:=by omega
  refine ai (ah F (ah F (ad (aq (aZ F F) (decide_eq_true (by have:=(hB.a (by omega)).1;omega))) (ah F (au F F (aN bW F dM F F) (au F F (aQ 0 du F F F F) (au F F (bS du F) (au F F (aq (aZ F F) (decide_eq_true (by have:=(hB.a (by omega)).2;omega))) (ad (bu F F) (aj F (ae (aA (ap ?_)))))))))))))
  refine aE (.bool true) Tryz.results4 F ?_
  exact⟨[],Sub.z,F,F⟩
 have Ij: ¬J1≠0:=by omega
 refine av (ai (ah F (ad (aZ F F) ?_)))
 by_cases U2:((Ks:Nat):Int)=0
 ·refine ad (aq (az F) (decide_eq_true U2)) ?_
  refine au F F (dh 0 bW F aY F F F) (au F F (dh 2 bW F aY F F F) ?_)
  refine fU F F F (aP Nj (aI fun w1 hI=>(haveI:=di hI;Q3 w1 k2 k1 (hI.at (mG 1 F)) (hI.at (mG 3 F)) (hB.b (by omega) (by omega)).1 (hB.b (by omega) (by omega)).2.2)) F ?_)
  rintro vr O' ⟨N,rfl,rfl,rfl⟩
  refine ad (bu F F) (ah F (au F F (aN bW F dM F F) (au F F (aQ 2 du F F F F) (au F F (bS du F) (au F F (az F) (au F F (aq (Dr F F) (decide_eq_true (hB.b (by omega) (by omega)).2.1)) (ad (bu F F) (ah F (aF F F ?_)))))))))
  refine aF F F (aF F F (aF F F (aF F F (aF F F (aF F F (aF F F (ad (bu F F) (aj F ?_))))))))
  refine ae (aA (ap ?_))
  refine aE (.bool true) Tryz.results4 F ?_
  exact⟨[],Sub.z,F,F⟩
 refine ad (aq (az F) (decide_eq_false U2)) (aF F F (aF F F (aF F F (ad (bl F F) (ah F (aF F F (aF F F (aF F F ?_))))))))
 refine aF F F (aF F F (ad (bl F F) (ah F (au F F (az F) (au F F (aq (aZ F F) (decide_eq_true (by have:=(hB.c (by omega) (by omega)).1;omega))) (au F F (az F) (au F F (aN bW F dM F F) (au F F (aQ 0 du F F F F) ?_))))))))
 refine au F F (bS du F) (au F F (aq (aZ F F) (decide_eq_true (by have:=(hB.c (by omega) (by omega)).2;omega))) (au F F (bu F F) (ad (bl F F) (aj F (ae (aA (ap ?_)))))))
 refine aE (.bool true) Tryz.results4 F ?_
 exact⟨[],Sub.z,F,F⟩
end Go.Proofs.YtgdbfideeeegmaaGreatDoor


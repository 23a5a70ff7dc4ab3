/- Contracts of functions of the program, and what they answer. Conditions: those each theorem names. -/
import Derived.Test.YtgdbfideeeegmaaGreatDoorA2
import Derived.Test.YtgdbfideeeegmaaGreatDoorB4
import Derived.Test.YtgdbfideeeegmaaGreatDoorB5
import Derived.Test.YtgdbfideeeegmaaGreatDoorB2
import Derived.Test.YtgdbfideeeegmaaGreatDoorB3
import Derived.Test.YtgdbfideeeegmaaGreatDoorA7
import Derived.Test.YtgdbfideeeegmaaGreatDoorA4
import Derived.Test.YtgdbfideeeegmaaGreatDoorA5
import Derived.Test.YtgdbfideeeegmaaGreatDoorA0
set_option linter.unusedSectionVars false
set_option linter.unusedSimpArgs false
set_option linter.unusedVariables false
set_option linter.unnecessarySimpa false
set_option maxHeartbeats 8000000
set_option maxRecDepth 20000
namespace Go.Proofs.YtgdbfideeeegmaaGreatDoor
open Go.Lx Go.RowKit _root_.Go.Proofs.Tryz
theorem Vk (w:World) [dE Tryz.prog w] (d:cU) (k:DK) (h:At w d k) (hv:Valid d) (hn:d.next.length<10000) {M:cU} (hM:js d=M):
  cH Tryz.prog 14 [(dV d k)] w (fun v N=> ∃b c,v=.tuple #[.slice b (JI M).length c,vN (NC M)]∧N=[aq b c 72 5 (bt (JI M))]):=by
 refine aF func14 F ntmps14 F ?_
 have HE:Valid M:=by rw[←hM];exact oY hv
 have Zr:=HE.n4
 have Rw:=HE.n0
 have hL:eh M≤64:=cF (by decide) (show M.vars.toNat≤6 by have:=HE.v6;have:=HE.v0;omega)
 have IP:eh M≤256:=by omega
 refine ai (ao F (dG (cs:=(dC d k)) F F (fun z1=>?_)))
 refine aj F (aj F (ae (ai (ad (eu 0 cZ F bL F F F) (ao F (bl Cb (aX fun w1 hI=>(haveI:=et hI;Cc w1 d k (hI.pR h) hv hn hM)) F ?_))))))
 rintro vr O' ⟨N,rfl,k2,rfl,rfl⟩
 refine ah F (ad (bE (vs:=_) F F) (ad (bE (vs:=_) F F) (ao F (bs bL F (fun z2=>?_)))))
 refine ao F (bN (vs:=(dC M k2)) 0 bL F F F F ?_)
 refine aj F (ae (aM (ai (ah F (ad (aB (dQ F F) (ak (by decide))) (ae (a6 F (aE (aM ?_)))))))))
 let iG:Lx.Item:=oI z2 25 (dC M k2)
 refine dx (O':=[dI 56 4 3 M k2,iG]) (by exact Sub.ew [iG] _ (.k .z)) ?_
 refine Ea (fun zy=>?_)
 let gu:Lx.Item:=aq k2.fb k2.fc 4 1 (cG M.aY)
 let gK:Lx.Item:=aq k2.nb k2.nc 56 1 (dm k2.qs)
 refine dx (O':=([gK,gu,iG]++cd 3 k2.qs)) (by exact gN [gK,gu] _ (cd 3 k2.qs)) ?_
 have HF:=JK zy
 refine a7 (ad (a_ cZ F fz F F) (ad (bi 2 e_ F F F F) (ad (cQ e_ F) (aj F (ae (ai (ad (cE (cs:=[.int .u8 1,(.int .u8 0),(.int .u8 0),(vI 0),(vI 0)]) nh cm (by kernel_rfl)) (ao F (bl B6 (aX fun w1 hI=>(haveI:=et hI;xi w1 1 ⟨1,0,0,0,0⟩)) F ?_)))))))))
 rintro vr O' ⟨N,rfl,q0,c0,rfl,rfl,yu,Cd⟩
 have qq:gi q0 c0.r:=Cd.elim id (fun h=>absurd h (by simp))
 refine dX (O':=([gK,gu,iG]++((dq 72 q0)++(cd 3 k2.qs)))) (by exact fL [] _ (dq 72 q0) (cd 3 k2.qs)) ?_
 refine ao F (bs db F (fun z3=>?_))
 refine ao F (bN (vs:=c0.cells) 0 db F F F F ?_)
 refine ae (ai (ah F (ao F (cY (m:=M.next.length) xk oA F F (by omega) (by omega) (fun z4=>?_)))))
 refine aj F (ae (aM (ai (ad (a_ cZ F fz F F) (ad (bi 4 e_ F F F F) (ad (cQ e_ F) (ah F (ae (aU ?_)))))))))
 let jD:Lx.Item:=oI z3 69 c0.cells
 let lu:Value:=(.slice (aD z4) M.next.length M.next.length)
 let ph:Value:=(.pointer (aD z1))
 let AE:Value:=(.slice k2.nb M.next.length k2.nc)
 let yE:Value:=(.pointer (aD z2))
 let xl:Value:=(.pointer (aD z3))
 refine dO (fun(R:List MR) ρ O=> ∃(p:List ER),O=([aq (aD z4) M.next.length 75 1 (iY R M.next.length),jD,gK,gu,iG]++(dq 72 p++(eI 69 R++cd 3 k2.qs)))∧R.length≤M.next.length∧pP R p M.next.length (l_ M 0)∧gi p c0.r∧dv [(0,(dV d k)),(1,ph),(2,nS),(3,vI 0),(4,yE),(5,vI 0),(6,vI (M.next.length:Int)),(7,xl),(8,lu),(38,AE),(39,vI (M.next.length:Int)),(40,vN R.length)] ρ) (fun R=>M.next.length-R.length) [] ?_ ?_
 ·exact⟨q0,by unfold iY kG;rfl,bn _,.nil,qq,(.of F)⟩
 rintro R ρ O ⟨p,rfl,hs,hR,qq,hH⟩
 obtain⟨gF,rfl⟩:=hH.elim
 clear hH
 have adX:fF c0.pp:=by rw[yu];exact xj
 refine ai (ad (cT F F) (ae (aM (aP F (fun hc=>?_) (fun hc=>?_)))))
 ·have xm:R.length<M.next.length:=by omega
  have vM:R.length<k2.qs.length:=by omega
  refine aE (aM (aU (ai (ah F (ad (dU (i:=R.length) e_ cV F F (dR (mG 2 F)) xm (by rw[ar];exact vM)) (ad (de cL F F (dR (mG 2 F)) (JL vM)) (aj F (aj F (ae (ai (ah F (ah F (ae (aU (T.eX 69 2 ?_)))))))))))))))
  let ut:Value:=(.slice k2.qs[R.length].b k2.qs[R.length].xs.length k2.qs[R.length].c)
  refine dO (fun(l:List PR) ρ O=> ∃(p2:List ER) (cb:Option Addr) (cc:Nat),O=([aq cb cc 69 2 (eH l),aq (aD z4) M.next.length 75 1 (iY (R++[⟨cb,cc,l⟩]) M.next.length),jD,gK,gu,iG]++(dq 72 p2++(eI 69 R++cd 3 k2.qs)))∧l.length≤M.next.length∧vL l p2 (l_ M 0 R.length)∧pP R p2 M.next.length (l_ M 0)∧gi p2 c0.r∧dv [(0,(dV d k)),(1,ph),(2,nS),(3,vI 0),(4,yE),(5,vI 0),(6,vI (M.next.length:Int)),(7,xl),(8,lu),(9,vN R.length),(10,ut),(38,AE),(39,vI (M.next.length:Int)),(40,vN R.length),(45,vI (M.next.length:Int)),(46,vN l.length)] ρ) (fun l=>M.next.length-l.length) [] ?_ ?_
  ·exact⟨p,none,0,by rw[B9 xm];rfl,bn _,.nil,hR,qq,(.of F)⟩
  rintro l ρ O ⟨p2,cb,cc,rfl,ht,hl,yn,qq,hH⟩
  obtain⟨gF,rfl⟩:=hH.elim
  clear hH
  refine ai (ad (cT F F) (ae (aM (aP F (fun hc=>?_) (fun hc=>?_)))))
  ·have oB:l.length<M.next.length:=by omega
   refine aE (aM (aU (ai (ah F (aj F (ae (ai (ad (eu 2 fZ F db F F F) (ao F (bs db F (fun z5=>?_)))))))))))
   refine ao F (bN (vs:=c0.cells) 0 db F F F F ?_)
   refine ae ?_
   let lw:Lx.Item:=aq (aD z4) M.next.length 75 1 (iY (R++[⟨cb,cc,l⟩]) M.next.length)
   let oV:Lx.Item:=aq cb cc 69 2 (eH l)
   refine gz (fun ρ O=> ∃(p3:List ER) (pc:PR),Sub ([oI z5 69 pc.cells,oV,lw,jD,gK,gu,iG]++(dq 72 p3++(eI 69 R++cd 3 k2.qs))) O∧pc.pp=HD M R.length l.length 0∧gi p3 pc.r∧(∀y∈p2,y∈p3)∧dv [(0,(dV d k)),(1,ph),(2,nS),(3,vI 0),(4,yE),(5,vI 0),(6,vI (M.next.length:Int)),(7,xl),(8,lu),(9,vN R.length),(10,ut),(11,vN l.length),(12,(.pointer (aD z5))),(38,AE),(39,vI (M.next.length:Int)),(40,vN R.length),(45,vI (M.next.length:Int)),(46,vN l.length)] ρ) ?_ ?_
   ·refine aM ?_
    refine a7 (ah F (ah F (ad (bJ F F) (ae (aP F (fun hc=>?_) (fun hc=>?_))))))
    ·have PH:R.length=l.length:=by omega
     refine a7 (ad (cE (cs:=[.int .u8 2,(.int .u8 0),(.int .u8 0),(vI 0),(vI 0)]) nh cm (by kernel_rfl)) (ao F (bl B6 (aX fun w1 hI=>(haveI:=et hI;xi w1 2 ⟨2,0,0,0,0⟩)) F ?_)))
     rintro vr O' ⟨N,rfl,q1,c1,rfl,rfl,yo,Cd⟩
     have NE:gi (q1++p2) c1.r:=u7 Cd (fun x hx=>by simp at hx)
     refine dX (O':=([oI z5 69 c0.cells,oV,lw,jD,gK,gu,iG]++((dq 72 q1)++(dq 72 p2++(eI 69 R++cd 3 k2.qs))))) (by exact fL [] _ (dq 72 q1) (dq 72 p2++(eI 69 R++cd 3 k2.qs))) ?_
     refine ao F (bN (vs:=c1.cells) 0 db F F F F ?_)
     refine ae ?_
     exact⟨(q1++p2),c1,(by rw[ql,aI];exact Sub.rf),by rw[yo];unfold HD;rw[aO (by omega)];rfl,NE,fun y hy=>am _ hy,(.of F)⟩
    have Fs: ¬R.length=l.length:=by omega
    refine aE ?_
    exact⟨p2,c0,(by exact Sub.rf),by rw[yu];unfold HD;rw[az (by omega)];rfl,qq,fun y hy=>hy,(.of F)⟩
   rintro ρ O ⟨p3,pc,hS,DJ,Zs,NF,hH⟩
   obtain⟨gF,rfl⟩:=hH.elim
   clear hH
   refine dx hS ?_
   refine aM (ai (ah F (ad (bK (cQ cL F) (v':=vN (eh M)) (by rw[AD zy HE.toVal vM])) (ah F (ae (aU ?_))))))
   refine dO (fun(x:Nat) ρ O=> ∃(p4:List ER) (pd:PR),O=([oI z5 69 pd.cells,oV,lw,jD,gK,gu,iG]++(dq 72 p4++(eI 69 R++cd 3 k2.qs)))∧x≤eh M∧pd.pp=HD M R.length l.length x∧gi p4 pd.r∧(∀y∈p2,y∈p4)∧dv [(0,(dV d k)),(1,ph),(2,nS),(3,vI 0),(4,yE),(5,vI 0),(6,vI (M.next.length:Int)),(7,xl),(8,lu),(9,vN R.length),(10,ut),(11,vN l.length),(12,(.pointer (aD z5))),(38,AE),(39,vI (M.next.length:Int)),(40,vN R.length),(45,vI (M.next.length:Int)),(46,vN l.length),(55,ut),(56,vN (eh M)),(57,vN x)] ρ) (fun x=>eh M-x) 0 ?_ ?_
   ·exact⟨p3,pc,F,bn _,DJ,Zs,NF,(.of F)⟩
   rintro x ρ O ⟨p4,pd,rfl,hx,NG,HG,JN,hH⟩
   obtain⟨gF,rfl⟩:=hH.elim
   clear hH
   refine ai (ad (cT F F) (ae (aM (aP F (fun hc=>?_) (fun hc=>?_)))))
   ·have FI:x<eh M:=by omega
    refine aE (aM (aU (ai (ah F (ad (dU (i:=x) cL bj F F (dR (am _ (am _ (am _ ((JM vM)))))) (by rw[AD zy HE.toVal vM];exact FI) (by rw[ar,AD zy HE.toVal vM];exact FI)) (ad (de dP F F (dR (am _ (am _ (am _ ((JM vM)))))) (Vj zy HE.toVal vM FI)) (aj F (aj F (ae (ai (ah F (ah F (ad (bJ F F) (ae (aP F (fun hc=>?_) (fun hc=>?_))))))))))))))))
    ·have abY:fm M R.length x=l.length:=by omega
     refine fD [(0,0),(1,0),(2,0),(3,0),(4,0),(5,0),(6,0),(7,0),(8,0),(9,0),(10,1),(11,2),(12,2)] ?_
     refine au F (eu 0 fZ F db F F F) (au F (aN F) (au F (fX dP fA F (by first|rfl|exact gS ⟨by omega,by omega⟩|exact qi (by omega)|exact nI (by omega))) (au F (aN F) (au F (bK (cQ cL F) (v':=vN (eh M)) (by rw[AD zy HE.toVal vM])) (au F (kZ (a:=(eh M)) (b:=1) F F (by omega) (by omega)) (au F (aN F) (au F (kZ (a:=((eh M)-1)) (b:=x) F F (by omega) (by omega)) (au F (fX dP fA F (by first|rfl|exact gS ⟨by omega,by omega⟩|exact qi (by omega)|exact nI (by omega))) (au F (cE (cs:=[.int .u8 3,v8 x,v8 (((eh M)-1)-x),(vI 0),(vI 0)]) nh cm (by kernel_rfl)) ?_)))))))))
     refine cr F F (bl B6 (aX fun w1 hI=>(haveI:=et hI;xi w1 0 ⟨3,x,eh M-1-x,0,0⟩)) F ?_)
     rintro vr O' ⟨N,rfl,q2,c2,rfl,rfl,n6,Cd⟩
     refine⟨ng _ (by exact Sub.rf),?_⟩
     have JO:gi (q2++p4) c2.r:=u7 Cd (fun x hx=>by simp at hx)
     have HG:=HG.mono (fun y hy=>am q2 hy)
     have Zt:fF pd.pp:=by rw[NG];exact tg IP _ _ _ hx
     have NH:fF c2.pp:=by rw[n6];exact B7 FI IP
     let JP:List Lx.Item:=[oI z5 69 pd.cells,oV,lw,jD,gK,gu,iG]
     refine e7 (O':=(JP++((dq 72 q2)++(dq 72 p4++(eI 69 R++cd 3 k2.qs))))) (by exact fL [] _ (dq 72 q2) (dq 72 p4++(eI 69 R++cd 3 k2.qs))) ?_
     refine b_ F F (bl JQ (aX fun w1 hI=>(haveI:=et hI;RP w1 pd c2 (gi.sl (T:=72) hI (k8 (fun it fI=>am _ (aT _ fI)) (fun it fI=>am _ (am _ (aT _ fI)))) HG) Zt (gi.sl (T:=72) hI (k8 (fun it fI=>am _ (aT _ fI)) (fun it fI=>am _ (am _ (aT _ fI)))) JO) NH)) F ?_)
     rintro vr O' ⟨N,rfl,q3,c3,rfl,rfl,Yy,Cd⟩
     have NI:gi (q3++(q2++p4)) c3.r:=u7 Cd (fun x hx=>by simp only[dh,List.not_mem_nil,or_false]at hx;rcases hx with rfl|rfl;exact HG;exact JO)
     
     refine e7 (O':=(JP++((dq 72 q3)++((dq 72 q2)++(dq 72 p4++(eI 69 R++cd 3 k2.qs)))))) (by exact fL [] _ (dq 72 q3) ((dq 72 q2)++(dq 72 p4++(eI 69 R++cd 3 k2.qs)))) ?_
     refine b_ F F (bN (vs:=c3.cells) 0 db F F F F ?_)
     refine e7 (O':=([oI z5 69 c3.cells,oV,lw,jD,gK,gu,iG]++(dq 72 (q3++(q2++p4))++(eI 69 R++cd 3 k2.qs)))) (by simp only[ql,aI];exact Sub.rf) ?_
     refine cw ?_
     refine a7 (ad (dy (a:=x) (b:=1) F F (by omega)) (ah F (ae ?_)))
     have e9:c3.pp=HD M R.length l.length (x+1):=by rw[Yy,n6,NG,HD,aO (by omega)];rfl
     exact⟨x+1,by omega,[oI z5 69 c3.cells,oV,lw,jD,gK,gu,iG]++(dq 72 (q3++(q2++p4))++(eI 69 R++cd 3 k2.qs)),(by exact Sub.rf),(q3++(q2++p4)),c3,F,by omega,e9,NI,fun y hy=>am _ (am _ (JN y hy)),(.of F)⟩
    have abZ: ¬fm M R.length x=l.length:=by omega
    refine aE (a7 (ad (dy (a:=x) (b:=1) F F (by omega)) (ah F (ae ?_))))
    exact⟨x+1,by omega,[oI z5 69 pd.cells,oV,lw,jD,gK,gu,iG]++(dq 72 p4++(eI 69 R++cd 3 k2.qs)),(by exact Sub.rf),p4,pd,F,by omega,by unfold HD;rw[az (by omega)];exact NG,HG,JN,(.of F)⟩
   have ab0: ¬x<eh M:=by omega
   refine cK ?_
   refine T.ds ([oI z5 69 pd.cells,lw,jD,gK,gu,iG]++(dq 72 p4++(eI 69 R++cd 3 k2.qs))) [(0,0),(1,0),(2,0),(3,0),(4,0),(5,0),(6,0),(7,1),(8,1),(9,0),(10,2)] (by exact Sub.k (.d (.k (.k (.k (.k (.k .rf))))))) ?_
   refine au F (aN F) (au F (aN F) (au F (aN F) (au F (aN F) (au F (dU (i:=R.length) xk oA F F (dR (mG 1 F)) xm (by rw[ma (by simp;omega)];exact xm)) (au F (de l9 F F (dR (mG 1 F)) (B_ (by omega) ⟨cb,cc,l⟩)) (au F (eu 0 fZ F db F F F) ?_))))))
   refine cr F F (cz (m:=1) (parts:=[(0,_)]) (cs:=pd.cells) l9 db (by decide) (by kernel_rfl) F (fun z6=>⟨by exact Sub.d (.k (.d (.k (.k (.k (.k (.k .rf))))))),?_⟩))
   refine cr F F (cW 2 l9 l9 db F F F F (by rw[hU]) (by decide) (Src.row (j:=0) F (by simp)) (by simp[fa]) (by dsimp only;omega) (by decide) (by decide) (fun z7 Ce=>⟨by exact Sub.d (.k (.d (.k (.k (.k (.k (.k .rf))))))),?_⟩))
   refine au F (dU (i:=R.length) xk oA F F (dR (mG 1 F)) xm (by rw[ma (by simp;omega)];exact xm)) ?_
   refine b_ F F (ol (j:=R.length) (v:=(.slice z7 (l.length+1) Ce)) (vs:=[(.slice z7 (l.length+1) Ce)]) (cs:=iY (R++[⟨cb,cc,l⟩]) M.next.length) 3 oA F F F F F (by simp) F (by rw[ma (by simp;omega)];simp;omega) ?_)
   let HH:Lx.Item:=aq (aD z4) M.next.length 75 1 (iY (R++[⟨z7,Ce,l++[pd]⟩]) M.next.length)
   refine e7 (O':=([aq (aD z6) 1 69 2 pd.cells,oI z5 69 pd.cells,aq z7 Ce 69 2 ((eH l)++pd.cells),HH,jD,gK,gu,iG]++(dq 72 p4++(eI 69 R++cd 3 k2.qs)))) (by rw[show fh (iY (R++[⟨cb,cc,l⟩]) M.next.length) R.length [(.slice z7 (l.length+1) Ce)]=iY (R++[⟨z7,Ce,l++[pd]⟩]) M.next.length from(by rw[←zw (by omega) ⟨cb,cc,l⟩ ⟨z7,Ce,l++[pd]⟩,show(⟨z7,Ce,l++[pd]⟩:MR).val=.slice z7 (l.length+1) Ce by simp[MR.val]];rfl)];exact cj (aZ _)) ?_
   refine cw ?_
   refine a7 (ad (dy (a:=l.length) (b:=1) F F (by omega)) (ah F (ae ?_)))
   exact⟨l++[pd],by simp;omega,[aq z7 Ce 69 2 (eH (l++[pd])),HH,jD,gK,gu,iG]++(dq 72 p4++(eI 69 R++cd 3 k2.qs)),(by rw[ta];exact(by exact Sub.d (.d (.k (.k (.k (.k (.k (.k .rf))))))))),p4,z7,Ce,F,by simp;omega,(hl.mono JN).snoc (NG.trans (by rw[show x=eh M by omega];rfl)) HG,yn.mono JN,qq.mono JN,⟨F,F,F,F,F,F,F,F,F,F,F,F,F,F,F,(ax (fun n9:Nat=>Value.int .i64 ((n9:Nat):Int)) (show l.length+1=(l++[pd]).length by simp)),trivial⟩⟩
  have oC: ¬l.length<M.next.length:=by omega
  refine cK ?_
  refine a7 (ad (dy (a:=R.length) (b:=1) F F (by omega)) (ah F (ae ?_)))
  have IL:l.length=M.next.length:=by omega
  exact⟨R++[⟨cb,cc,l⟩],by simp;omega,[aq (aD z4) M.next.length 75 1 (iY (R++[⟨cb,cc,l⟩]) M.next.length),jD,gK,gu,iG]++(dq 72 p2++(eI 69 (R++[⟨cb,cc,l⟩])++cd 3 k2.qs)),(by rw[B8];exact u9 [aq (aD z4) M.next.length 75 1 (iY (R++[⟨cb,cc,l⟩]) M.next.length),oI z3 69 c0.cells,aq k2.nb k2.nc 56 1 (dm k2.qs),aq k2.fb k2.fc 4 1 (cG M.aY),oI z2 25 (dC M k2)] [aq cb cc 69 2 (eH l),aq (aD z4) M.next.length 75 1 (iY (R++[⟨cb,cc,l⟩]) M.next.length),oI z3 69 c0.cells,aq k2.nb k2.nc 56 1 (dm k2.qs),aq k2.fb k2.fc 4 1 (cG M.aY),oI z2 25 (dC M k2)] (dq 72 p2) (eI 69 R) (cd 3 k2.qs) (aq cb cc 69 2 (eH l)) (by exact Sub.ew [aq cb cc 69 2 (eH l)] _ (.ew [aq cb cc 69 2 (eH l)] _ (.ew [aq cb cc 69 2 (eH l)] _ (.ew [aq cb cc 69 2 (eH l)] _ (.ew [aq cb cc 69 2 (eH l)] _ (.k .z))))))),p2,F,by simp;omega,yn.snoc IL hl,qq,⟨F,F,F,F,F,F,F,F,F,F,F,(ax (fun n9:Nat=>Value.int .i64 ((n9:Nat):Int)) (show R.length+1=(R++[(⟨cb,cc,l⟩:MR)]).length by simp)),trivial⟩⟩
 have Vl: ¬R.length<M.next.length:=by omega
 refine cK ?_
 refine aM (ai (ah F (ah F (ae (aU ?_)))))
 have Zu:R.length=M.next.length:=by omega
 have heV:=zv Zu
 refine dO (fun(k9:Nat) ρ O=> ∃(R:List MR) (p:List ER) (ob:Option Addr) (oc:Nat),O=([aq ob oc 75 1 (kG R),jD,gK,gu,iG]++(dq 72 p++(eI 69 R++cd 3 k2.qs)))∧k9≤M.next.length∧R.length=M.next.length∧pP R p M.next.length (l_ M k9)∧gi p c0.r∧dv [(0,(dV d k)),(1,ph),(2,nS),(3,vI 0),(4,yE),(5,vI 0),(6,vI (M.next.length:Int)),(7,xl),(8,(.slice ob M.next.length oc)),(90,vI (M.next.length:Int)),(91,vN k9)] ρ) (fun k9=>M.next.length-k9) 0 ?_ ?_
 ·exact⟨R,p,(aD z4),M.next.length,by rw[heV],bn _,Zu,hR,qq,(.of F)⟩
 rintro k9 ρ O ⟨R,p,ob,oc,rfl,u_,Zu,hR,qq,hH⟩
 obtain⟨gF,rfl⟩:=hH.elim
 clear hH
 refine ai (ad (cT F F) (ae (aM (aP F (fun hc=>?_) (fun hc=>?_)))))
 ·have P1:k9<M.next.length:=by omega
  refine aE (aM (aU (ai (ah F (aj F (ae (ai (ah F (ao F (cY (m:=M.next.length) xk oA F F (by omega) (by omega) (fun z9=>?_)))))))))))
  refine aj F (ae (aM (ai (ah F (ah F (ae (aU ?_)))))))
  let mn:Lx.Item:=aq ob oc 75 1 (kG R)
  refine dO (fun(R2:List MR) ρ O=> ∃(p2:List ER),O=([aq (aD z9) M.next.length 75 1 (iY R2 M.next.length),mn,jD,gK,gu,iG]++(dq 72 p2++(eI 69 R2++(eI 69 R++cd 3 k2.qs))))∧R2.length≤M.next.length∧pP R2 p2 M.next.length (l_ M (k9+1))∧pP R p2 M.next.length (l_ M k9)∧gi p2 c0.r∧dv [(0,(dV d k)),(1,ph),(2,nS),(3,vI 0),(4,yE),(5,vI 0),(6,vI (M.next.length:Int)),(7,xl),(8,(.slice ob M.next.length oc)),(15,vN k9),(16,(.slice (aD z9) M.next.length M.next.length)),(90,vI (M.next.length:Int)),(91,vN k9),(96,vI (M.next.length:Int)),(97,vN R2.length)] ρ) (fun R2=>M.next.length-R2.length) [] ?_ ?_
  ·exact⟨p,by unfold iY kG;rfl,bn _,.nil,hR,qq,(.of F)⟩
  rintro R2 ρ O ⟨p2,rfl,hs,yn,hR,qq,hH⟩
  obtain⟨gF,rfl⟩:=hH.elim
  clear hH
  refine ai (ad (cT F F) (ae (aM (aP F (fun hc=>?_) (fun hc=>?_)))))
  ·have Cg:R2.length<M.next.length:=by omega
   refine aE (aM (aU (ai (ah F (aj F (ae (ai (ah F (ah F (ae (aU (T.eX 69 2 ?_))))))))))))
   refine dO (fun(l:List PR) ρ O=> ∃(p3:List ER) (cb:Option Addr) (cc:Nat),O=([aq cb cc 69 2 (eH l),aq (aD z9) M.next.length 75 1 (iY (R2++[⟨cb,cc,l⟩]) M.next.length),mn,jD,gK,gu,iG]++(dq 72 p3++(eI 69 R2++(eI 69 R++cd 3 k2.qs))))∧l.length≤M.next.length∧vL l p3 (l_ M (k9+1) R2.length)∧pP R2 p3 M.next.length (l_ M (k9+1))∧pP R p3 M.next.length (l_ M k9)∧gi p3 c0.r∧dv [(0,(dV d k)),(1,ph),(2,nS),(3,vI 0),(4,yE),(5,vI 0),(6,vI (M.next.length:Int)),(7,xl),(8,(.slice ob M.next.length oc)),(15,vN k9),(16,(.slice (aD z9) M.next.length M.next.length)),(17,vN R2.length),(90,vI (M.next.length:Int)),(91,vN k9),(96,vI (M.next.length:Int)),(97,vN R2.length),(100,vI (M.next.length:Int)),(101,vN l.length)] ρ) (fun l=>M.next.length-l.length) [] ?_ ?_
   ·exact⟨p2,none,0,by rw[B9 Cg];rfl,bn _,.nil,yn,hR,qq,(.of F)⟩
   rintro l ρ O ⟨p3,cb,cc,rfl,ht,hl,Vm,zz,qq,hH⟩
   obtain⟨gF,rfl⟩:=hH.elim
   clear hH
   refine ai (ad (cT F F) (ae (aM (aP F (fun hc=>?_) (fun hc=>?_)))))
   ·have JR:l.length<M.next.length:=by omega
    have DI:R2.length<R.length:=by omega
    have pQ:k9<R.length:=by omega
    obtain⟨a1,ea1,P2,Ci⟩:=zz.at DI JR
    obtain⟨a2,ea2,Vn,NJ⟩:=zz.at DI P1
    obtain⟨a3,ea3,ha3,Vo⟩:=zz.at pQ P1
    obtain⟨a4,ea4,ha4,HI⟩:=zz.at pQ JR
    have Zv:fF a1.pp:=by rw[P2];exact iN IP _ _ _
    have Vp:fF a2.pp:=by rw[Vn];exact iN IP _ _ _
    have Vq:fF a3.pp:=by rw[ha3];exact iN IP _ _ _
    have Vr:fF a4.pp:=by rw[ha4];exact iN IP _ _ _
    have ad3:=zz.len _ (aQ DI)
    have ad4:=zz.len _ (aQ pQ)
    refine aE (aM (aU (ai (ah F (aj F (ae ?_))))))
    let eP:List Lx.Item:=[aq (aD z9) M.next.length 75 1 (iY (R2++[⟨cb,cc,l⟩]) M.next.length),aq ob oc 75 1 (kG R),oI z3 69 c0.cells,aq k2.nb k2.nc 56 1 (dm k2.qs),aq k2.fb k2.fc 4 1 (cG M.aY),oI z2 25 (dC M k2)]
    refine T.ds (eP++(dq 72 p3++(eI 69 R2++(eI 69 R++cd 3 k2.qs)))) [(0,0),(1,0),(2,0),(3,0),(4,0),(5,0),(6,0),(7,0),(8,0),(9,0),(10,0),(11,0),(12,0),(13,0),(14,0),(15,0),(16,0),(17,0),(18,0),(19,0),(20,0),(21,0),(22,0),(23,0),(24,0),(25,0),(26,0),(29,0),(30,0),(31,0),(32,0),(33,0),(34,0),(35,0),(27,1),(28,1),(36,1),(37,1),(38,1),(39,1),(40,0),(41,2)] (by exact Sub.d (.k (.k (.k (.k (.k (.k .rf))))))) ?_
    refine au F (aN F) (au F (aN F) (au F (aN F) (au F (aN F) (au F (dU (i:=R2.length) xk oA F F (dR (mG 0 F)) Cg (by rw[ma (by simp;omega)];exact Cg)) (au F (de l9 F F (dR (mG 0 F)) (B_ (by omega) ⟨cb,cc,l⟩)) (au F (aN F) (au F (aN F) (au F (dU (i:=R2.length) xk oA F F (dR (mG 1 F)) (by omega) (by rw[oz];exact DI)) (au F (de l9 F F (dR (mG 1 F)) (oy DI)) (au F (aN F) (au F (dT (i:=l.length) l9 db F F (dR (am _ (am _ (am _ (aT _ (j8 DI)))))) (by omega) (by rw[hU];omega)) (au F (eO (vs:=a1.cells) fZ F db F F (br _) (dR (am _ (am _ (am _ (aT _ (j8 DI)))))) (nj ea1)) (au F (aN F) (au F (aN F) (au F (dU (i:=R2.length) xk oA F F (dR (mG 1 F)) (by omega) (by rw[oz];exact DI)) (au F (de l9 F F (dR (mG 1 F)) (oy DI)) (au F (aN F) (au F (dT (i:=k9) l9 db F F (dR (am _ (am _ (am _ (aT _ (j8 DI)))))) (by omega) (by rw[hU];omega)) (au F (eO (vs:=a2.cells) fZ F db F F (br _) (dR (am _ (am _ (am _ (aT _ (j8 DI)))))) (nj ea2)) (au F (aN F) (au F (aN F) (au F (dU (i:=k9) xk oA F F (dR (mG 1 F)) (by omega) (by rw[oz];exact pQ)) (au F (de l9 F F (dR (mG 1 F)) (oy pQ)) (au F (aN F) (au F (dT (i:=k9) l9 db F F (dR (am _ (am _ (am _ (aT _ (j8 pQ)))))) (by omega) (by rw[hU];omega)) (au F (eO (vs:=a3.cells) fZ F db F F (br _) (dR (am _ (am _ (am _ (aT _ (j8 pQ)))))) (nj ea3)) (au F (aN F) (au F (aN F) (au F (dU (i:=k9) xk oA F F (dR (mG 1 F)) (by omega) (by rw[oz];exact pQ)) (au F (de l9 F F (dR (mG 1 F)) (oy pQ)) (au F (aN F) ?_)))))))))))))))))))))))))))))))
    refine au F (dT (i:=l.length) l9 db F F (dR (am _ (am _ (am _ (aT _ (j8 pQ)))))) (by omega) (by rw[hU];omega)) (au F (eO (vs:=a4.cells) fZ F db F F (br _) (dR (am _ (am _ (am _ (aT _ (j8 pQ)))))) (nj ea4)) ?_)
    refine cr F F (bl Vs (aX fun w1 hI=>(haveI:=et hI;RQ w1 a3 (gi.sl (T:=72) hI (fun it fI=>am _ (aT _ fI)) Vo) Vq)) F ?_)
    rintro vr O' ⟨N,rfl,q1,c1,rfl,rfl,yo,Cd⟩
    refine⟨ng _ (by exact Sub.d (.k (.k (.k (.k (.k (.k .rf))))))),?_⟩
    have NE:gi (q1++p3) c1.r:=u7 Cd (fun x hx=>by simp only[dh,List.not_mem_nil,or_false]at hx;rcases hx with rfl;exact Vo)
    have Vt:fF c1.pp:=by rw[yo];exact xh Vq
    have Ci:=Ci.mono (fun y hy=>am q1 hy)
    have NJ:=NJ.mono (fun y hy=>am q1 hy)
    have HI:=HI.mono (fun y hy=>am q1 hy)
    let gC:List Lx.Item:=[aq cb cc 69 2 (eH l),aq (aD z9) M.next.length 75 1 (iY (R2++[⟨cb,cc,l⟩]) M.next.length),aq ob oc 75 1 (kG R),oI z3 69 c0.cells,aq k2.nb k2.nc 56 1 (dm k2.qs),aq k2.fb k2.fc 4 1 (cG M.aY),oI z2 25 (dC M k2)]
    refine e7 (O':=(gC++((dq 72 q1)++(dq 72 p3++(eI 69 R2++(eI 69 R++cd 3 k2.qs)))))) (by exact fL [] _ (dq 72 q1) (dq 72 p3++(eI 69 R2++(eI 69 R++cd 3 k2.qs)))) ?_
    refine cr F F (bl P3 (aX fun w1 hI=>(haveI:=et hI;P0 w1 a2 c1 (gi.sl (T:=72) hI (k8 (fun it fI=>am _ (aT _ fI)) (fun it fI=>am _ (am _ (aT _ fI)))) NJ) Vp (gi.sl (T:=72) hI (k8 (fun it fI=>am _ (aT _ fI)) (fun it fI=>am _ (am _ (aT _ fI)))) NE) Vt)) F ?_)
    rintro vr O' ⟨N,rfl,q2,c2,rfl,rfl,n6,Cd⟩
    refine⟨ng _ (ft eP gC (dq 72 q1) (dq 72 p3++(eI 69 R2++(eI 69 R++cd 3 k2.qs))) (by exact Sub.d (.k (.k (.k (.k (.k (.k .z)))))))),?_⟩
    have JO:gi (q2++(q1++p3)) c2.r:=u7 Cd (fun x hx=>by simp only[dh,List.not_mem_nil,or_false]at hx;rcases hx with rfl|rfl;exact NJ;exact NE)
    have NH:fF c2.pp:=by rw[n6];exact q9 Vp Vt
    have Ci:=Ci.mono (fun y hy=>am q2 hy)
    have HI:=HI.mono (fun y hy=>am q2 hy)
    refine e7 (O':=(gC++((dq 72 q2)++((dq 72 q1)++(dq 72 p3++(eI 69 R2++(eI 69 R++cd 3 k2.qs))))))) (by exact fL [] _ (dq 72 q2) ((dq 72 q1)++(dq 72 p3++(eI 69 R2++(eI 69 R++cd 3 k2.qs))))) ?_
    refine cr F F (bl P3 (aX fun w1 hI=>(haveI:=et hI;P0 w1 c2 a4 (gi.sl (T:=72) hI (k8 (fun it fI=>am _ (aT _ fI)) (k8 (fun it fI=>am _ (am _ (aT _ fI))) (fun it fI=>am _ (am _ (am _ (aT _ fI)))))) JO) NH (gi.sl (T:=72) hI (k8 (fun it fI=>am _ (aT _ fI)) (k8 (fun it fI=>am _ (am _ (aT _ fI))) (fun it fI=>am _ (am _ (am _ (aT _ fI)))))) HI) Vr)) F ?_)
    rintro vr O' ⟨N,rfl,q3,c3,rfl,rfl,Yy,Cd⟩
    refine⟨ng _ ((ft eP eP (dq 72 q1) (dq 72 p3++(eI 69 R2++(eI 69 R++cd 3 k2.qs))) Sub.rf).trans (ft eP gC (dq 72 q2) ((dq 72 q1)++(dq 72 p3++(eI 69 R2++(eI 69 R++cd 3 k2.qs)))) (by exact Sub.d (.k (.k (.k (.k (.k (.k .z))))))))),?_⟩
    have NI:gi (q3++(q2++(q1++p3))) c3.r:=u7 Cd (fun x hx=>by simp only[dh,List.not_mem_nil,or_false]at hx;rcases hx with rfl|rfl;exact JO;exact HI)
    have Zw:fF c3.pp:=by rw[Yy];exact q9 NH Vr
    have Ci:=Ci.mono (fun y hy=>am q3 hy)
    refine e7 (O':=(gC++((dq 72 q3)++((dq 72 q2)++((dq 72 q1)++(dq 72 p3++(eI 69 R2++(eI 69 R++cd 3 k2.qs)))))))) (by exact fL [] _ (dq 72 q3) ((dq 72 q2)++((dq 72 q1)++(dq 72 p3++(eI 69 R2++(eI 69 R++cd 3 k2.qs)))))) ?_
    refine cr F F (bl JQ (aX fun w1 hI=>(haveI:=et hI;RP w1 a1 c3 (gi.sl (T:=72) hI (k8 (fun it fI=>am _ (aT _ fI)) (k8 (fun it fI=>am _ (am _ (aT _ fI))) (k8 (fun it fI=>am _ (am _ (am _ (aT _ fI)))) (fun it fI=>am _ (am _ (am _ (am _ (aT _ fI)))))))) Ci) Zv (gi.sl (T:=72) hI (k8 (fun it fI=>am _ (aT _ fI)) (k8 (fun it fI=>am _ (am _ (aT _ fI))) (k8 (fun it fI=>am _ (am _ (am _ (aT _ fI)))) (fun it fI=>am _ (am _ (am _ (am _ (aT _ fI)))))))) NI) Zw)) F ?_)
    rintro vr O' ⟨N,rfl,q4,c4,rfl,rfl,hc4,Cd⟩
    refine⟨ng _ ((ft eP eP (dq 72 q1) (dq 72 p3++(eI 69 R2++(eI 69 R++cd 3 k2.qs))) Sub.rf).trans ((ft eP eP (dq 72 q2) ((dq 72 q1)++(dq 72 p3++(eI 69 R2++(eI 69 R++cd 3 k2.qs)))) Sub.rf).trans (ft eP gC (dq 72 q3) ((dq 72 q2)++((dq 72 q1)++(dq 72 p3++(eI 69 R2++(eI 69 R++cd 3 k2.qs))))) (by exact Sub.d (.k (.k (.k (.k (.k (.k .z)))))))))),?_⟩
    have Zx:gi (q4++(q3++(q2++(q1++p3)))) c4.r:=u7 Cd (fun x hx=>by simp only[dh,List.not_mem_nil,or_false]at hx;rcases hx with rfl|rfl;exact Ci;exact NI)
    have e9:c4.pp=l_ M (k9+1) R2.length l.length:=by rw[hc4,Yy,n6,yo,P2,Vn,ha3,ha4];rfl
    refine e7 (O':=(gC++((dq 72 q4)++((dq 72 q3)++((dq 72 q2)++((dq 72 q1)++(dq 72 p3++(eI 69 R2++(eI 69 R++cd 3 k2.qs))))))))) (by exact fL [] _ (dq 72 q4) ((dq 72 q3)++((dq 72 q2)++((dq 72 q1)++(dq 72 p3++(eI 69 R2++(eI 69 R++cd 3 k2.qs))))))) ?_
    let HJ:Lx.Item:=aq (aD z9) M.next.length 75 1 (iY (R2++[⟨cb,cc,l⟩]) M.next.length)
    refine cr F F (cz (m:=1) (parts:=[(0,_)]) (cs:=c4.cells) l9 db (by decide) (by kernel_rfl) F (fun pJ=>⟨(ft eP eP (dq 72 q1) (dq 72 p3++(eI 69 R2++(eI 69 R++cd 3 k2.qs))) Sub.rf).trans ((ft eP eP (dq 72 q2) ((dq 72 q1)++(dq 72 p3++(eI 69 R2++(eI 69 R++cd 3 k2.qs)))) Sub.rf).trans ((ft eP eP (dq 72 q3) ((dq 72 q2)++((dq 72 q1)++(dq 72 p3++(eI 69 R2++(eI 69 R++cd 3 k2.qs))))) Sub.rf).trans (ft eP [aq (aD pJ) 1 69 2 c4.cells,aq cb cc 69 2 (eH l),HJ,mn,jD,gK,gu,iG] (dq 72 q4) ((dq 72 q3)++((dq 72 q2)++((dq 72 q1)++(dq 72 p3++(eI 69 R2++(eI 69 R++cd 3 k2.qs)))))) (by exact Sub.d (.d (.k (.k (.k (.k (.k (.k .z))))))))))),?_⟩))
    refine cr F F (cW 1 l9 l9 db F F F F (by rw[hU]) (by decide) (Src.row (j:=0) F (by simp)) (by simp[fa]) (by dsimp only;omega) (by decide) (by decide) (fun ym qp=>⟨(ft eP eP (dq 72 q1) (dq 72 p3++(eI 69 R2++(eI 69 R++cd 3 k2.qs))) Sub.rf).trans ((ft eP eP (dq 72 q2) ((dq 72 q1)++(dq 72 p3++(eI 69 R2++(eI 69 R++cd 3 k2.qs)))) Sub.rf).trans ((ft eP eP (dq 72 q3) ((dq 72 q2)++((dq 72 q1)++(dq 72 p3++(eI 69 R2++(eI 69 R++cd 3 k2.qs))))) Sub.rf).trans (ft eP [aq (aD pJ) 1 69 2 c4.cells,aq ym qp 69 2 ((eH l)++c4.cells),HJ,mn,jD,gK,gu,iG] (dq 72 q4) ((dq 72 q3)++((dq 72 q2)++((dq 72 q1)++(dq 72 p3++(eI 69 R2++(eI 69 R++cd 3 k2.qs)))))) (by exact Sub.d (.d (.k (.k (.k (.k (.k (.k .z))))))))))),?_⟩))
    refine au F (dU (i:=R2.length) xk oA F F (dR (mG 0 F)) Cg (by rw[ma (by simp;omega)];exact Cg)) ?_
    refine b_ F F (ol (j:=R2.length) (v:=(.slice ym (l.length+1) qp)) (vs:=[(.slice ym (l.length+1) qp)]) (cs:=iY (R2++[⟨cb,cc,l⟩]) M.next.length) 2 oA F F F F F (by simp) F (by rw[ma (by simp;omega)];simp;omega) ?_)
    let tk:List Lx.Item:=[aq (aD pJ) 1 69 2 c4.cells,aq ym qp 69 2 ((eH l)++c4.cells),aq (aD z9) M.next.length 75 1 (iY (R2++[⟨ym,qp,l++[c4]⟩]) M.next.length),aq ob oc 75 1 (kG R),jD,gK,gu,iG]
    refine e7 (O':=(tk++((dq 72 q4)++((dq 72 q3)++((dq 72 q2)++((dq 72 q1)++(dq 72 p3++(eI 69 R2++(eI 69 R++cd 3 k2.qs))))))))) (by rw[show fh (iY (R2++[⟨cb,cc,l⟩]) M.next.length) R2.length [(.slice ym (l.length+1) qp)]=iY (R2++[⟨ym,qp,l++[c4]⟩]) M.next.length from(by rw[←zw (by omega) ⟨cb,cc,l⟩ ⟨ym,qp,l++[c4]⟩,show(⟨ym,qp,l++[c4]⟩:MR).val=.slice ym (l.length+1) qp by simp[MR.val]];rfl)];exact cj (aZ _)) ?_
    refine e7 (O':=(tk++(dq 72 (q4++(q3++(q2++(q1++p3))))++(eI 69 R2++(eI 69 R++cd 3 k2.qs))))) (by simp only[ql,aI];exact Sub.rf) ?_
    refine cw ?_
    refine a7 (ad (dy (a:=l.length) (b:=1) F F (by omega)) (ah F (ae ?_)))
    have NF: ∀y∈p3,y∈(q4++(q3++(q2++(q1++p3)))):=fun y hy=>by simp[hy]
    exact⟨l++[c4],by simp;omega,[aq ym qp 69 2 (eH (l++[c4])),aq (aD z9) M.next.length 75 1 (iY (R2++[⟨ym,qp,l++[c4]⟩]) M.next.length),mn,jD,gK,gu,iG]++(dq 72 (q4++(q3++(q2++(q1++p3))))++(eI 69 R2++(eI 69 R++cd 3 k2.qs))),(by rw[ta];exact(by exact Sub.d (.k (.k (.k (.k (.k (.k (.k .rf))))))))),(q4++(q3++(q2++(q1++p3)))),ym,qp,F,by simp;omega,(hl.mono NF).snoc e9 Zx,Vm.mono NF,zz.mono NF,qq.mono NF,⟨F,F,F,F,F,F,F,F,F,F,F,F,F,F,F,F,F,(ax (fun n9:Nat=>Value.int .i64 ((n9:Nat):Int)) (show l.length+1=(l++[c4]).length by simp)),trivial⟩⟩
   have Zy: ¬l.length<M.next.length:=by omega
   refine cK ?_
   refine a7 (ad (dy (a:=R2.length) (b:=1) F F (by omega)) (ah F (ae ?_)))
   have IL:l.length=M.next.length:=by omega
   exact⟨R2++[⟨cb,cc,l⟩],by simp;omega,[aq (aD z9) M.next.length 75 1 (iY (R2++[⟨cb,cc,l⟩]) M.next.length),mn,jD,gK,gu,iG]++(dq 72 p3++(eI 69 (R2++[⟨cb,cc,l⟩])++(eI 69 R++cd 3 k2.qs))),(by rw[B8];exact u9 [aq (aD z9) M.next.length 75 1 (iY (R2++[⟨cb,cc,l⟩]) M.next.length),aq ob oc 75 1 (kG R),oI z3 69 c0.cells,aq k2.nb k2.nc 56 1 (dm k2.qs),aq k2.fb k2.fc 4 1 (cG M.aY),oI z2 25 (dC M k2)] [aq cb cc 69 2 (eH l),aq (aD z9) M.next.length 75 1 (iY (R2++[⟨cb,cc,l⟩]) M.next.length),aq ob oc 75 1 (kG R),oI z3 69 c0.cells,aq k2.nb k2.nc 56 1 (dm k2.qs),aq k2.fb k2.fc 4 1 (cG M.aY),oI z2 25 (dC M k2)] (dq 72 p3) (eI 69 R2) (eI 69 R++cd 3 k2.qs) (aq cb cc 69 2 (eH l)) (by exact Sub.ew [aq cb cc 69 2 (eH l)] _ (.ew [aq cb cc 69 2 (eH l)] _ (.ew [aq cb cc 69 2 (eH l)] _ (.ew [aq cb cc 69 2 (eH l)] _ (.ew [aq cb cc 69 2 (eH l)] _ (.ew [aq cb cc 69 2 (eH l)] _ (.k .z)))))))),p3,F,by simp;omega,Vm.snoc IL hl,zz,qq,⟨F,F,F,F,F,F,F,F,F,F,F,F,F,F,(ax (fun n9:Nat=>Value.int .i64 ((n9:Nat):Int)) (show R2.length+1=(R2++[(⟨cb,cc,l⟩:MR)]).length by simp)),trivial⟩⟩
  have ab3: ¬R2.length<M.next.length:=by omega
  refine cK ?_
  refine a7 (ah F (aj F (ae (a7 (ad (dy (a:=k9) (b:=1) F F (by omega)) (ah F (ae ?_)))))))
  have Vu:R2.length=M.next.length:=by omega
  have Zz:=zv Vu
  exact⟨k9+1,by omega,[aq (aD z9) M.next.length 75 1 (kG R2),jD,gK,gu,iG]++(dq 72 p2++(eI 69 R2++cd 3 k2.qs)),(by rw[←Zz];exact Ca [aq (aD z9) M.next.length 75 1 (iY R2 M.next.length),oI z3 69 c0.cells,aq k2.nb k2.nc 56 1 (dm k2.qs),aq k2.fb k2.fc 4 1 (cG M.aY),oI z2 25 (dC M k2)] [aq (aD z9) M.next.length 75 1 (iY R2 M.next.length),aq ob oc 75 1 (kG R),oI z3 69 c0.cells,aq k2.nb k2.nc 56 1 (dm k2.qs),aq k2.fb k2.fc 4 1 (cG M.aY),oI z2 25 (dC M k2)] (dq 72 p2) (eI 69 R2) (eI 69 R) (cd 3 k2.qs) (by exact Sub.k (.d (.k (.k (.k (.k .z))))))),R2,p2,(aD z9),M.next.length,F,by omega,Vu,yn,qq,(.of F)⟩
 have ab4: ¬k9<M.next.length:=by omega
 refine cK ?_
 refine aM ?_
 have RR:k9=M.next.length:=by omega
 have Us:0<R.length:=by omega
 refine a7 (ad (eu 1 fZ F db F F F) (ao F (bs db F (fun nN=>?_))))
 refine ao F (bN (vs:=c0.cells) 0 db F F F F ?_)
 refine ae (aM (ai (ad (a_ cZ F dA F F) (ad (bi 5 eB F F F F) (ad (bK (cQ eB F) (v':=vN M.next.length) (by rw[HE.fin])) (ah F (ae (aU ?_))))))))
 let mF:Lx.Item:=aq ob oc 75 1 (kG R)
 refine dx (O':=([oI nN 69 c0.cells,mF,gK,gu]++(dq 72 p++(eI 69 R++cd 3 k2.qs)))) (by exact Sub.k (.k (.d (.k (.k (.d .rf)))))) ?_
 refine dO (fun(t:Nat) ρ O=> ∃(p2:List ER) (po:PR),O=([oI nN 69 po.cells,mF,gK,gu]++(dq 72 p2++(eI 69 R++cd 3 k2.qs)))∧t≤M.next.length∧po.pp=yD M t∧gi p2 po.r∧pP R p2 M.next.length (l_ M k9)∧dv [(0,(dV d k)),(1,ph),(2,nS),(3,vI 0),(5,vI 0),(6,vI (M.next.length:Int)),(8,(.slice ob M.next.length oc)),(19,(.pointer (aD nN))),(151,(.slice k2.fb M.aY.length k2.fc)),(152,vN M.next.length),(153,vN t)] ρ) (fun t=>M.next.length-t) 0 ?_ ?_
 ·exact⟨p,c0,F,bn _,yu,qq,hR,(.of F)⟩
 rintro t ρ O ⟨p2,po,rfl,ht,NK,NL,yn,hH⟩
 obtain⟨gF,rfl⟩:=hH.elim
 clear hH
 refine ai (ad (cT F F) (ae (aM (aP F (fun hc=>?_) (fun hc=>?_)))))
 ·have AF:t<M.next.length:=by omega
  obtain⟨a5,ea5,ha5,Vv⟩:=yn.at Us AF
  have ZA:fF a5.pp:=by rw[ha5];exact iN IP _ _ _
  have ZB:fF po.pp:=by rw[NK];exact q_ IP _
  have ad7:=yn.len _ (aQ Us)
  refine aE (aM (aU (ai (ah F (ad (dU (i:=t) eB fx F F (dR (mG 3 F)) (by rw[HE.fin];exact AF) (by rw[ar,HE.fin];exact AF)) (ad (de AG F F (dR (mG 3 F)) (o5 HE AF)) (aj F (aj F (ae (ai (ah F (ae (T.cond F (fun hc=>?_) (fun hc=>?_))))))))))))))
  ·have Vw:dr M t=true:=hc
   refine fD [(0,0),(1,0),(2,0),(3,0),(4,0),(5,0),(6,0),(7,2),(8,2)] ?_
   refine au F (eu 0 fZ F db F F F) (au F (aN F) (au F (dU (i:=0) xk oA F F (dR (mG 1 F)) (by omega) (by rw[oz];exact Us)) (au F (de l9 F F (dR (mG 1 F)) (oy Us)) (au F (aN F) (au F (dT (i:=t) l9 db F F (dR (am _ (am _ (aT _ (j8 Us))))) (by omega) (by rw[hU];omega)) (au F (eO (vs:=a5.cells) fZ F db F F (br _) (dR (am _ (am _ (aT _ (j8 Us))))) (nj ea5)) ?_))))))
   refine b_ F F (bl JQ (aX fun w1 hI=>(haveI:=et hI;RP w1 po a5 (gi.sl (T:=72) hI (fun it fI=>am _ (aT _ fI)) NL) ZB (gi.sl (T:=72) hI (fun it fI=>am _ (aT _ fI)) Vv) ZA)) F ?_)
   rintro vr O' ⟨N,rfl,q6,c6,rfl,rfl,hc6,Cd⟩
   have ZC:gi (q6++p2) c6.r:=u7 Cd (fun x hx=>by simp only[dh,List.not_mem_nil,or_false]at hx;rcases hx with rfl|rfl;exact NL;exact Vv)
   
   refine e7 (O':=([oI nN 69 po.cells,mF,gK,gu]++((dq 72 q6)++(dq 72 p2++(eI 69 R++cd 3 k2.qs))))) (by exact fL [] _ (dq 72 q6) (dq 72 p2++(eI 69 R++cd 3 k2.qs))) ?_
   refine b_ F F (bN (vs:=c6.cells) 0 db F F F F ?_)
   refine e7 (O':=([oI nN 69 c6.cells,mF,gK,gu]++(dq 72 (q6++p2)++(eI 69 R++cd 3 k2.qs)))) (by simp only[ql,aI];exact Sub.rf) ?_
   refine cw ?_
   refine a7 (ad (dy (a:=t) (b:=1) F F (by omega)) (ah F (ae ?_)))
   have e9:c6.pp=yD M (t+1):=by rw[hc6,NK,ha5,RR,yD,aO Vw]
   exact⟨t+1,by omega,[oI nN 69 c6.cells,mF,gK,gu]++(dq 72 (q6++p2)++(eI 69 R++cd 3 k2.qs)),(by exact Sub.rf),(q6++p2),c6,F,by omega,e9,ZC,yn.mono (fun y hy=>am _ hy),(.of F)⟩
  have Vw: ¬dr M t=true:=by rw[hc];simp
  refine aE (a7 (ad (dy (a:=t) (b:=1) F F (by omega)) (ah F (ae ?_))))
  exact⟨t+1,by omega,[oI nN 69 po.cells,mF,gK,gu]++(dq 72 p2++(eI 69 R++cd 3 k2.qs)),(by exact Sub.rf),p2,po,F,by omega,by rw[yD,az Vw];exact NK,NL,yn,(.of F)⟩
 have ZD: ¬t<M.next.length:=by omega
 refine cK ?_
 refine aM (ai (ad (a_ fZ F nM F F) (ad (bi 0 ur F F F F) (ad (bJ F F) (ae (aP F (fun hc=>?_) (fun hc=>?_)))))))
 ·have RS:po.k=3:=by omega
  have vd:po.pp=Eh M:=by rw[NK,show t=M.next.length by omega];rfl
  refine aM (T.eX 72 5 ?_)
  refine a7 (aj F (aj F (ae (aK (aA ?_)))))
  refine dl nS (vI 4) Tryz.results14 F F ?_
  have h3:(Eh M).1=3:=by rw[←vd];exact RS
  have e1:JI M=[]:=aO h3
  have e2:NC M=4:=aO h3
  exact⟨[aq none 0 72 5 []],(by exact Sub.k .z),none,0,by rw[e1,e2];rfl,by rw[e1];rfl⟩
 have RT: ¬po.k=3:=by omega
 have vd:po.pp=Eh M:=by rw[NK,show t=M.next.length by omega];rfl
 refine aE (ai (ad (a_ fZ F fT F F) (ad (bi 0 cX F F F F) (aj F (aj F (ae (aK (aA ?_))))))))
 refine dl (.slice po.r.b po.r.e.length po.r.c) (vI 0) Tryz.results14 F F ?_
 have h3: ¬(Eh M).1=3:=by rw[←vd];exact RT
 have e1:JI M=po.r.e:=(az h3).trans (by rw[←vd];rfl)
 have e2:NC M=0:=az h3
 have v_:po.r.e≠ []:=by
  have:=(q_ (m:=M) IP M.next.length).ne h3
  rw[show yD M M.next.length=po.pp from vd.symm]at this;exact this
 exact⟨[po.r.sQ 72],cj (List.singleton_sublist.2 (am _ (aT _ (List.mem_map.2 ⟨po.r,NL.resolve_right v_,F⟩)))),po.r.b,po.r.c,by rw[e1,e2];rfl,by rw[e1];rfl⟩
end Go.Proofs.YtgdbfideeeegmaaGreatDoor

namespace Go.Lx
open Go.RowKit Go.Proofs.YtgdbfideeeegmaaGreatDoor
def j4:cU:=⟨1,0,[[0,1],[2,3],[0,1],[2,3]],[false,false,true,true]⟩
def Qa:cU:=⟨0,0,[[1],[2],[2]],[false,true,false]⟩
theorem HK:Valid j4:=eA.1 (by decide)
theorem HL:Valid Qa:=eA.1 (by decide)
theorem NT:js Qa=Qa:=by kernel_rfl
theorem NU:JI Qa=FP:=by kernel_rfl
theorem NV:NC Qa=0:=by kernel_rfl
theorem NW:js j4=j4:=by kernel_rfl
theorem VV:oW yF=.gZ (.star (.letter 0 0)) (.gZ (.letter 1 0) (.letter 0 0)):=by kernel_rfl
theorem NX:oW tA=.gZ (.ahead (.gZ (.letter 0 0) (.letter 2 0))) (.star (.letter 0 0)):=by kernel_rfl
theorem YA {v:Nat} (hv:v≤6) (p n:Nat) {B:Nat} (hB:3≤B):kQ v (.letter p n) B:=cn (wg (gO p n) hv (bF 1)).uW.len hB
theorem vP {v:Nat} (hv:v≤6) (p n:Nat):fM (v:Int) 3 (minOf v (gB (.letter p n))) (gB (.letter p n)):=ek hv (by decide) (t:=.letter p n) F (YA hv p n (bF 3))
theorem ZN {v:Nat} (hv:v≤6):kQ v (.star (.letter 0 0)) 4096:=
 ⟨YA hv 0 0 (by decide),Cq (vP hv 0 0).valid (cn (cF (by decide) (Nat.succ_le_succ (vP hv 0 0).len)) (by decide))⟩
theorem okP {v:Nat} (hv:v≤6) (p n q m:Nat):kQ v (.gZ (.letter p n) (.letter q m)) 4096:=
 ⟨YA hv p n (by decide),YA hv q m (by decide),pr (vP hv p n).valid (vP hv q m).valid (cn (Nat.mul_le_mul (vP hv p n).len (cF (by decide) (vP hv q m).len)) (by decide))⟩
theorem VW {v:Nat} (hv:v≤6) (p n q m:Nat):fM (v:Int) 24 (minOf v (gB (.gZ (.letter p n) (.letter q m)))) (gB (.gZ (.letter p n) (.letter q m))):=
 lg hv (by decide) (vP hv p n).toHasL (vP hv q m).toHasL (pr (vP hv p n).valid (vP hv q m).valid (Nat.mul_le_mul (vP hv p n).len (cF (by decide) (vP hv q m).len)))
theorem Cr (u:List Nat):pK (gB (.letter 0 0)) u=true:=by
 rw[oF]
 induction u with
 |nil=>exact .nil
 |cons x u ih=>
  refine iI.pG (x:=[x]) ?_ ih
  show([x].length==1&& [x].all (gO 0 0))=true
  simp[gO]
theorem NY {p n:Nat} {y:List Nat} (h:gB (.letter p n) y=true): ∃x,y=[x]∧gO p n x=true:=by
 have h:(y.length==1&&y.all (gO p n))=true:=h
 rw[aJ,beq_iff_eq]at h
 obtain⟨x,rfl⟩:=List.length_eq_one_iff.1 h.1
 exact⟨x,F,by simpa using h.2⟩
theorem Qb {v:Nat} (hv:v≤6):HasL (v:Int) 1 (fJ (v:Int) true) (gB (.star (.letter 0 0))):=
 ⟨(fN hv).valid,(fN hv).len,F,fun w hw=>by rw[(fN hv).iM w hw];exact(Cr w).symm⟩
theorem J5 {p n q m:Nat} {w:List Nat}:gB (.gZ (.letter p n) (.letter q m)) w=true↔ ∃a b,w=[a,b]∧gO p n a=true∧gO q m b=true:=by
 constructor
 ·intro h
  obtain⟨y1,y2,rfl,h3,h4⟩:=i_.1 h
  obtain⟨a,rfl,ha⟩:=NY h3
  obtain⟨b,rfl,hb⟩:=NY h4
  exact⟨a,b,F,ha,hb⟩
 ·rintro⟨a,b,rfl,ha,hb⟩
  refine i_.2 ⟨[a],[b],F,?_,?_⟩
  ·show([a].length==1&& [a].all (gO p n))=true
   simp[ha]
  ·show([b].length==1&& [b].all (gO q m))=true
   simp[hb]
theorem sink {E:cU} {L s:Nat} (h: ∀x,x<L→fm E s x=s): ∀(u:List Nat),(∀x∈u,x<L)→runN E s u=s
 | [],_=>rfl
 |x::u,hu=>by
  show runN E (fm E s x) u=s
  rw[h x (hu x (by simp))]
  exact sink h u fun y hy=>hu y (by simp[hy])
def R6:cU:=⟨1,0,[[1,2],[1,1],[3,3],[1,1]],[false,false,false,true]⟩
theorem NZ:HasL (1:Nat) 4 R6 (gB (.gZ (.letter 1 0) (.letter 0 0))):=by
 refine⟨eA.1 (by decide),by decide,F,fun w hw=>?_⟩
 have hs:=sink (E:=R6) (L:=2) (s:=1) (by decide)
 rw[eo,J5]
 match w,hw with
 | [],_=>exact⟨fun h=>absurd h (by decide),fun⟨a,b,h,_⟩=>by cases h⟩
 | [a],hw=>
  have: ∀a,a<2→iM R6 [a]=false:=by decide
  exact⟨fun h=>absurd h (by rw[this a (hw a (by simp))];decide),fun⟨a,b,h,_⟩=>by cases h⟩
 | [a,b],hw=>
  have: ∀a,a<2→ ∀b,b<2→iM R6 [a,b]=gO 1 0 a:=by decide
  rw[this a (hw a (by simp)) b (hw b (by simp))]
  exact⟨fun h=>⟨a,b,F,h,by simp[gO]⟩,fun⟨a',b',h,h2,_⟩=>by cases h;exact h2⟩
 |a::b::c::u,hw=>
  have: ∀a,a<2→ ∀b,b<2→ ∀c,c<2→runN R6 0 [a,b,c]=1:=by decide
  refine⟨fun h=>?_,fun⟨a,b,h,_⟩=>by cases h⟩
  have h:dr R6 (runN R6 0 ([a,b,c]++u))=true:=h
  rw[kC,this a (hw a (by simp)) b (hw b (by simp)) c (hw c (by simp)),hs u fun x hx=>hw x (by simp[hx])]at h
  exact absurd h (by decide)
theorem ZO:Bx 1 yF 4096:=by
 unfold Bx;rw[az (by decide),VV]
 have h1:=ek (v:=1) (by decide) (bF 4096) (t:=.star (.letter 0 0)) F (ZN (by decide))
 have h2:=VW (v:=1) (by decide) 1 0 0 0
 exact⟨ZN (by decide),okP (by decide) 1 0 0 0,pr h1.valid h2.valid (cn (Nat.mul_le_mul (h1.zG (Qb (by decide))) (cF (by decide) (h2.zG NZ))) (by decide))⟩
def N0:cU:=⟨2,0,[[1,1,1,1],[2,2,3,3],[2,2,2,2],[3,3,3,3]],[false,false,false,true]⟩
theorem N1:fM (2:Nat) 4 N0 (je (gB (.gZ (.letter 0 0) (.letter 2 0))) fun _=>true):=by
 refine⟨⟨eA.1 (by decide),by decide,F,fun w hw=>?_⟩,by kernel_rfl⟩
 have s2:=sink (E:=N0) (L:=4) (s:=2) (by decide)
 have s3:=sink (E:=N0) (L:=4) (s:=3) (by decide)
 rw[eo,i_]
 have v_: ∀x y:List Nat,w=x++y→gB (.gZ (.letter 0 0) (.letter 2 0)) x=true→ ∃a b,w=a::b::y∧gO 2 0 b=true:=fun x y h h2=>by
  obtain⟨a,b,rfl,_,hb⟩:=J5.1 h2
  exact⟨a,b,h,hb⟩
 match w,hw,v_ with
 | [],_,v_=>exact⟨fun h=>absurd h (by decide),fun⟨x,y,h,h2,_⟩=>by obtain⟨a,b,h3,_⟩:=v_ x y h h2;cases h3⟩
 | [a],hw,v_=>
  have: ∀a,a<4→iM N0 [a]=false:=by decide
  exact⟨fun h=>absurd h (by rw[this a (hw a (by simp))];decide),fun⟨x,y,h,h2,_⟩=>by obtain⟨a,b,h3,_⟩:=v_ x y h h2;cases h3⟩
 |a::b::u,hw,v_=>
  have hu: ∀x∈u,x<4:=fun x hx=>hw x (by simp[hx])
  have e:iM N0 (a::b::u)=gO 2 0 b:=by
   have: ∀a,a<4→ ∀b,b<4→runN N0 0 [a,b]=if gO 2 0 b=true then 3 else 2:=by decide
   show dr N0 (runN N0 0 ([a,b]++u))=_
   rw[kC,this a (hw a (by simp)) b (hw b (by simp))]
   split
   ·rename_i h;rw[s3 u hu,h];rfl
   ·rename_i h;rw[s2 u hu,Bool.eq_false_iff.2 h];rfl
  rw[e]
  exact⟨fun h=>⟨[a,b],u,F,J5.2 ⟨a,b,F,by simp[gO],h⟩,F⟩,fun⟨x,y,h,h2,_⟩=>by obtain⟨a',b',h3,h4⟩:=v_ x y h h2;cases h3;exact h4⟩
def ZP:cU:=⟨2,0,[[0,0,0,0]],[true]⟩
theorem N2:fM (2:Nat) 4 ZP (gB (.star (.letter 0 0))):=by
 have h:=Qb (v:=2) (by decide)
 rw[show fJ ((2:Nat):Int) true=ZP by kernel_rfl]at h
 exact⟨h.le (by decide),by kernel_rfl⟩
def MX:List Lf:=[⟨9,N0,[1],false⟩,⟨0,ZP,[],true⟩]
theorem HM:mr 2 (oW tA)=MX∧HN 2 (oW tA)=[0]:=by
 rw[NX]
 have e1:mr 2 (.gZ (.ahead (.gZ (.letter 0 0) (.letter 2 0))) (.star (.letter 0 0)))=[⟨9,minOf 2 (je (gB (.gZ (.letter 0 0) (.letter 2 0))) fun _=>true),[1],false⟩,⟨0,minOf 2 (gB (.star (.letter 0 0))),[],true⟩]:=rfl
 rw[e1,←gX N1 (by decide),←gX N2 (by decide)]
 exact⟨F,F⟩
theorem VX:okB 2 (oW tA) 4096:=by
 rw[NX]
 have h2:=VW (v:=2) (by decide) 0 0 2 0
 have hs:=fN (v:=2) (by decide)
 exact⟨⟨okP (by decide) 0 0 2 0,pr h2.valid hs.valid (cn (Nat.mul_le_mul h2.len (cF (by decide) hs.len)) (by decide))⟩,ZN (by decide)⟩
theorem R7:iw MX 2:=by
 have h:=Ek (v:=2) (by decide) (bF 4096) (t:=oW tA) (by rw[NX];rfl) (by rw[NX];decide) VX
 rw[HM.1]at h;exact h
theorem ZQ:Bx 2 tA 4096:=by
 unfold Bx;rw[aO (by decide)]
 refine⟨VX,?_⟩
 unfold R8
 rw[HM.1,HM.2]
 exact R9 R7 ⟨F,F,F,F,F,F,F⟩ (by decide)
theorem VY:qy (mr 2 (oW tA)) 19:=by rw[HM.1];exact FQ (by decide)
theorem VZ: ∀r,r<4→ ∀a,a<2→ ∀b,b<2→fm j4 (fm j4 r a) b=2*a+b:=by decide
theorem V0: ∀a,a<2→ ∀b,b<2→dr j4 (2*a+b)=gO 1 0 a:=by decide
theorem El: ∀(u:List Nat) (r:Nat),r<4→kO (1:Nat) u→runN j4 r u<4
 | [],r,h,_=>h
 |x::u,r,h,hw=>by
  have hx:x<2:=hw x (by simp)
  have: ∀r,r<4→ ∀a,a<2→fm j4 r a<4:=by decide
  exact El u (fm j4 r x) (this r h x hx) fun y hy=>hw y (by simp[hy])
theorem N3 (w:List Nat) (hw:kO (1:Nat) w):iM j4 w=gB (oW yF) w:=by
 rw[VV,eo]
 constructor
 ·intro h
  rcases List.eq_nil_or_concat w with rfl|⟨x,b,rfl⟩
  ·exact absurd h (by decide)
  ·rcases List.eq_nil_or_concat x with rfl|⟨x,a,rfl⟩
   ·have hb:b<2:=hw b (by simp)
    have: ∀b,b<2→iM j4 [b]=false:=by decide
    have h:iM j4 [b]=true:=h
    rw[this b hb]at h;cases h
   ·rw[List.concat_eq_append,List.concat_eq_append]at*
    have ha:a<2:=hw a (by simp)
    have hb:b<2:=hw b (by simp)
    have hx:runN j4 0 x<4:=El x 0 (by decide) fun y hy=>hw y (by simp[hy])
    have h:dr j4 (runN j4 0 (x++[a]++[b]))=true:=h
    rw[kC,kC]at h
    have h:dr j4 (fm j4 (fm j4 (runN j4 0 x) a) b)=true:=h
    rw[VZ _ hx a ha b hb,V0 a ha b hb]at h
    refine i_.2 ⟨x,[a]++[b],by simp,Cr x,i_.2 ⟨[a],[b],F,?_,?_⟩⟩
    ·show([a].length==1&& [a].all (gO 1 0))=true
     simp[h]
    ·show([b].length==1&& [b].all (gO 0 0))=true
     simp[gO]
 ·intro h
  obtain⟨x,y,rfl,_,h2⟩:=i_.1 h
  obtain⟨y1,y2,rfl,h3,h4⟩:=i_.1 h2
  obtain⟨a,rfl,ha⟩:=NY h3
  obtain⟨b,rfl,_⟩:=NY h4
  have Vn:a<2:=hw a (by simp)
  have D8:b<2:=hw b (by simp)
  have hx:runN j4 0 x<4:=El x 0 (by decide) fun y hy=>hw y (by simp[hy])
  show dr j4 (runN j4 0 (x++([a]++[b])))=true
  rw[kC,kC]
  show dr j4 (fm j4 (fm j4 (runN j4 0 x) a) b)=true
  rw[VZ _ hx a Vn b D8,V0 a Vn b D8,ha]
theorem J6:fM (1:Nat) 4096 j4 (mx 1 yF):=by
 unfold mx;rw[az (by decide)]
 exact⟨⟨HK,by decide,F,N3⟩,NW⟩
theorem V1 {M:cU} (h:fM (1:Nat) 4096 M (mx 1 yF)):M=j4:=fM.ext h J6 fun _ _=>rfl
theorem R_ {M:cU} (h:fM (2:Nat) 4096 M (mx 2 tA)) {u:List Nat} (hu: ∀x∈u,x<4) (hl:u.length≤64):kp M u=0∧Aq M u=pt (u.foldl (j9 MX) (jo MX [0])):=by
 have hw:kO (2:Nat) u:=hu
 have h0:kp M u=0:=uu.2 ⟨h.valid,hl,h.toHasL.wd.2 hw⟩
 refine⟨h0,?_⟩
 rw[G_ h0,h.iM u hw]
 unfold mx Ut;rw[aO (by decide),HM.1,HM.2]
theorem Sa:pt ([0,3,0].foldl (j9 MX) (jo MX [0]))=true:=by decide+kernel
theorem Sb:pt ([3,1,2].foldl (j9 MX) (jo MX [0]))=false:=by decide+kernel
end Go.Lx

namespace Go.Proofs.YtgdbfideeeegmaaGreatDoor
open Go.Lx Go.RowKit _root_.Go.Proofs.Tryz
theorem V2 {w:World} {d:cU} {k:DK} (h1:Sl w k.nb (dm k.qs)) (h2:nums k.qs=d.next) (h3: ∀r∈k.qs,Sl w r.b (ints r.xs)) (h4:Sl w k.fb (cG d.aY)):At w d k:=by
 refine⟨h1,?_,h4⟩
 rw[←h2]
 refine⟨by unfold dm nums;rw[ar,ar],fun i r hr=>?_⟩
 unfold nums at hr
 rw[bq]at hr
 obtain⟨q,hq,rfl⟩:=Option.map_eq_some_iff.1 hr
 exact⟨q.b,q.c,by unfold dm;rw[bq,hq];rfl,h3 q (bQ hq)⟩
theorem N4 (w:World) [dE Tryz.prog w] [dE Tryz.prog w] (b:Option Addr) (c:Nat) (h:Sl w b (bt yF)):cH Tryz.prog 19 [.slice b yF.length c,vI 1,vI 4096] w fun v N=> ∃k,v=.tuple #[dV j4 k,vI 0]∧N=[dI 56 4 3 j4 k]:=by
 refine(FR (J7 w b c yF h (by decide) (by decide) 1 4096 (fun h=>absurd h (by decide)) (K:=0) (by decide) (fun _=>tB (by decide)) (fun _ h=>absurd h (by decide)))).mono fun v N=>?_
 rintro⟨D,k,er,rfl,rfl,⟨h1,_⟩|⟨_,h1,_⟩|⟨_,_,⟨rfl,hM,_⟩|⟨_,_,h1⟩⟩⟩
 ·exact absurd VQ h1
 ·exact absurd ⟨by decide,by decide⟩ h1
 ·have e:=V1 hM
  subst e
  exact⟨k,F,F⟩
 ·exact absurd ZO h1
theorem N5 (w:World) [dE Tryz.prog w] [dE Tryz.prog w] (b:Option Addr) (c:Nat) (h:Sl w b (bt tA)):cH Tryz.prog 19 [.slice b tA.length c,vI 2,vI 4096] w fun v N=> ∃M k,v=.tuple #[dV M k,vI 0]∧N=[dI 56 4 3 M k]∧fM (2:Nat) 4096 M (mx 2 tA):=by
 refine(FR (J7 w b c tA h (by decide) (by decide) 2 4096 (fun _=>by decide) (K:=19) (by decide) (fun _=>tB (by decide)) (fun _ _ _=>VY))).mono fun v N=>?_
 rintro⟨D,k,er,rfl,rfl,⟨h1,_⟩|⟨_,h1,_⟩|⟨_,_,⟨rfl,hM,_⟩|⟨_,_,h1⟩⟩⟩
 ·exact absurd VR h1
 ·exact absurd ⟨by decide,by decide⟩ h1
 ·exact⟨D,k,F,F,hM⟩
 ·exact absurd ZQ h1
theorem Qc (w:World) [dE Tryz.prog w] [dE Tryz.prog w] {M:cU} (hM:fM (2:Nat) 4096 M (mx 2 tA)) (k:DK) (h:At w M k) (wb:Option Addr) (wc:Nat) (l:List Nat) (hW:Sl w wb (p7 l)) (h4: ∀x∈l,x<4) (hl:l.length=3) (x:Bool) (hx:pt (l.foldl (j9 MX) (jo MX [0]))=x):cH Tryz.prog 29 [dV M k,.slice wb 3 wc] w fun v N=>v=.tuple #[.bool x,vI 0]∧N=[]:=by
 obtain⟨h1,h2⟩:=R_ hM h4 (by omega)
 have hb:=wI hM.toHasL
 have h9:=Cs w M k.nb k.fb k.nc k.fc (dm k.qs) h hb.1 hb.2.1 hb.2.2 wb wc l hW (by omega) (fun x h=>by have:=h4 x h;omega)
 rw[h1,h2,hx,hl]at h9
 exact h9
theorem eqS (w:World) [dE Tryz.prog w] [dE Tryz.prog w] (j k:DK) (h1:At w j4 j) (h2:At w j4 k):cH Tryz.prog 16 [dV j4 j,dV j4 k] w fun v N=>v=.bool true∧N=[]:=
 (Al (J8 w j4 j4 j.nb k.nb j.fb k.fb j.nc k.nc j.fc k.fc (dm j.qs) (dm k.qs) h1 h2 (by decide) (by decide) (by decide))).mono fun v N ⟨h1,O2,h2,_⟩=>⟨h2.trans (ax Value.bool (ay F)),h1⟩
theorem V3 (w:World) [dE Tryz.prog w] [dE Tryz.prog w] (k:DK) (h:At w Qa k):cH Tryz.prog 14 [dV Qa k] w fun v N=> ∃b c,v=.tuple #[.slice b FP.length c,vI 0]∧N=[aq b c 72 5 (bt FP)]:=by
 have h9:=Vk w Qa k h HL (by decide) NT
 rw[NU,NV]at h9
 exact h9
theorem Em (w:World) [dE Tryz.prog w]:cH Tryz.prog 11 [] w fun v N=>v=.bool true∧N=[]:=by
 refine aF func11 F ntmps11 F ?_
 refine ai (aj F (ae (ai (ao F (bl J9 (aW VS) F ?_)))))
 rintro vr O' ⟨N,rfl,b1,c1,rfl,rfl⟩
 refine ao F (bl J_ (aX fun w1 hI=>(haveI:=et hI;N4 w1 b1 c1 (hI.ii (mG 0 F)))) F ?_)
 rintro vr O' ⟨N,rfl,k1,rfl,rfl⟩
 refine ah F (ad (bE (vs:=_) F F) (ad (bE (vs:=_) F F) (ao F (bs bL F (fun z1=>?_)))))
 refine ao F (bN (vs:=(dC j4 k1)) 0 bL F F F F ?_)
 refine aj F ?_
 refine dX (O':=[oI z1 25 (dC j4 k1),dI 56 4 3 j4 k1]) (by exact Sub.k (.k .z)) ?_
 refine ae (ai (ao F (cz (m:=2) (parts:=[(0,.const (vI 0)),(1,.const (vI 1))]) (cs:=[vI 0,vI 1]) cL bj (by decide) (by kernel_rfl) F (fun z2=>?_))))
 refine ao F (cz (m:=2) (parts:=[(0,.const (vI 2)),(1,.const (vI 3))]) (cs:=[vI 2,vI 3]) cL bj (by decide) (by kernel_rfl) F (fun z3=>?_))
 refine ao F (cz (m:=2) (parts:=[(0,.const (vI 0)),(1,.const (vI 1))]) (cs:=[vI 0,vI 1]) cL bj (by decide) (by kernel_rfl) F (fun z4=>?_))
 refine ao F (cz (m:=2) (parts:=[(0,.const (vI 2)),(1,.const (vI 3))]) (cs:=[vI 2,vI 3]) cL bj (by decide) (by kernel_rfl) F (fun z5=>?_))
 refine ao F (cz (m:=4) (parts:=[(0,.tmp 17),(1,.tmp 18),(2,.tmp 19),(3,.tmp 20)]) (cs:=[(.slice (aD z2) 2 2),(.slice (aD z3) 2 2),(.slice (aD z4) 2 2),(.slice (aD z5) 2 2)]) e_ cV (by decide) (by kernel_rfl) F (fun z6=>?_))
 refine ao F (cz (m:=4) (parts:=[(0,.const (.bool false)),(1,.const (.bool false)),(2,.const (.bool true)),(3,.const (.bool true))]) (cs:=[.bool false,.bool false,.bool true,.bool true]) eB fx (by decide) (by kernel_rfl) F (fun z7=>?_))
 refine ad (cE (cs:=[vI 1,(vI 0),(.slice (aD z6) 4 4),(.slice (aD z7) 4 4)]) jp bL (by kernel_rfl)) (ao F (bs bL F (fun z8=>?_)))
 refine ao F (bN (vs:=[vI 1,(vI 0),(.slice (aD z6) 4 4),(.slice (aD z7) 4 4)]) 0 bL F F F F ?_)
 refine ae ?_
 refine dx (O':=[aq (aD z6) 4 56 1 [(.slice (aD z2) 2 2),(.slice (aD z3) 2 2),(.slice (aD z4) 2 2),(.slice (aD z5) 2 2)],aq (aD z7) 4 4 1 [.bool false,.bool false,.bool true,.bool true],aq (aD z2) 2 3 1 [vI 0,vI 1],aq (aD z3) 2 3 1 [vI 2,vI 3],aq (aD z4) 2 3 1 [vI 0,vI 1],aq (aD z5) 2 3 1 [vI 2,vI 3],oI z8 25 [vI 1,(vI 0),(.slice (aD z6) 4 4),(.slice (aD z7) 4 4)],oI z1 25 (dC j4 k1),dI 56 4 3 j4 k1]) (by exact Sub.ew [oI z8 25 [vI 1,(vI 0),(.slice (aD z6) 4 4),(.slice (aD z7) 4 4)],aq (aD z7) 4 4 1 [.bool false,.bool false,.bool true,.bool true]] _ (.ew [oI z8 25 [vI 1,(vI 0),(.slice (aD z6) 4 4),(.slice (aD z7) 4 4)]] _ (.ew [oI z8 25 [vI 1,(vI 0),(.slice (aD z6) 4 4),(.slice (aD z7) 4 4)],aq (aD z5) 2 3 1 [vI 2,vI 3],aq (aD z4) 2 3 1 [vI 0,vI 1],aq (aD z3) 2 3 1 [vI 2,vI 3]] _ (.ew [oI z8 25 [vI 1,(vI 0),(.slice (aD z6) 4 4),(.slice (aD z7) 4 4)],aq (aD z5) 2 3 1 [vI 2,vI 3],aq (aD z4) 2 3 1 [vI 0,vI 1]] _ (.ew [oI z8 25 [vI 1,(vI 0),(.slice (aD z6) 4 4),(.slice (aD z7) 4 4)],aq (aD z5) 2 3 1 [vI 2,vI 3]] _ (.ew [oI z8 25 [vI 1,(vI 0),(.slice (aD z6) 4 4),(.slice (aD z7) 4 4)]] _ (.k (.k (.k .z))))))))) ?_
 obtain⟨k3,tC⟩: ∃k:DK,k=⟨some ⟨z6,0,none⟩,4,some ⟨z7,0,none⟩,4,[⟨some ⟨z2,0,none⟩,2,[0,1]⟩,⟨some ⟨z3,0,none⟩,2,[2,3]⟩,⟨some ⟨z4,0,none⟩,2,[0,1]⟩,⟨some ⟨z5,0,none⟩,2,[2,3]⟩]⟩:=⟨_,F⟩
 refine dx (O':=(([aq k3.nb k3.nc 56 1 (dm k3.qs),aq k3.fb k3.fc 4 1 (cG j4.aY)]++cd 3 k3.qs)++[oI z8 25 [vI 1,(vI 0),(.slice (aD z6) 4 4),(.slice (aD z7) 4 4)],oI z1 25 (dC j4 k1),dI 56 4 3 j4 k1])) (by subst tC;exact Sub.rf) ?_
 refine s9 (φ:=nums k3.qs=j4.next) (by subst tC;rfl) ?_
 refine dx (O':=[dI 56 4 3 j4 k3,oI z8 25 (dC j4 k3),oI z1 25 (dC j4 k1),dI 56 4 3 j4 k1]) (by subst tC;exact Sub.rf) ?_
 refine ai (ao F (bl J9 (aW VT) F ?_))
 rintro vr O' ⟨N,rfl,b2,c2,rfl,rfl⟩
 refine ao F (bl J_ (aX fun w1 hI=>(haveI:=et hI;N5 w1 b2 c2 (hI.ii (mG 0 F)))) F ?_)
 rintro vr O' ⟨N,rfl,M,k2,rfl,rfl,hM⟩
 refine ah F (ad (bE (vs:=_) F F) (ad (bE (vs:=_) F F) (ao F (bs bL F (fun z9=>?_)))))
 refine ao F (bN (vs:=(dC M k2)) 0 bL F F F F ?_)
 refine aj F ?_
 refine dX (O':=[oI z9 25 (dC M k2),oI z8 25 (dC j4 k3),oI z1 25 (dC j4 k1),dI 56 4 3 M k2,dI 56 4 3 j4 k3,dI 56 4 3 j4 k1]) (by exact Sub.k (.ew [dI 56 4 3 M k2,aq b2 c2 72 5 (bt tA),dI 56 4 3 j4 k3] _ (.ew [dI 56 4 3 M k2,aq b2 c2 72 5 (bt tA),dI 56 4 3 j4 k3] _ (.k (.d (.k (.k .z))))))) ?_
 refine ae (ai (ad (eu 0 cZ F bL F F F) (ao F (cz (m:=3) (parts:=[(0,.const (.int .u8 0)),(1,.const (.int .u8 3)),(2,.const (.int .u8 0))]) (cs:=[.int .u8 0,.int .u8 3,.int .u8 0]) lh du (by decide) (by kernel_rfl) F (fun pJ=>?_)))))
 refine ao F (bl Ka (aX fun w1 hI=>(haveI:=et hI;Qc w1 hM k2 (hI.at (mG 4 F)) (aD pJ) 3 [0,3,0] (hI.ii (cs:=p7 [0,3,0]) (mG 0 F)) (by decide) F _ Sa)) F ?_)
 rintro vr O' ⟨N,rfl,rfl,rfl⟩
 refine ah F (ad (bE (vs:=_) F F) (ad (bE (vs:=_) F F) (aj F (aj F ?_))))
 refine dX (O':=[oI z9 25 (dC M k2),oI z8 25 (dC j4 k3),oI z1 25 (dC j4 k1),dI 56 4 3 M k2,dI 56 4 3 j4 k3,dI 56 4 3 j4 k1]) (by exact Sub.d (.k (.k (.k (.k (.k (.k .z))))))) ?_
 refine ae (ai (ad (eu 0 cZ F bL F F F) (ao F (cz (m:=3) (parts:=[(0,.const (.int .u8 3)),(1,.const (.int .u8 1)),(2,.const (.int .u8 2))]) (cs:=[.int .u8 3,.int .u8 1,.int .u8 2]) lh du (by decide) (by kernel_rfl) F (fun ym=>?_)))))
 refine ao F (bl Ka (aX fun w1 hI=>(haveI:=et hI;Qc w1 hM k2 (hI.at (mG 4 F)) (aD ym) 3 [3,1,2] (hI.ii (cs:=p7 [3,1,2]) (mG 0 F)) (by decide) F _ Sb)) F ?_)
 rintro vr O' ⟨N,rfl,rfl,rfl⟩
 refine ah F (ad (bE (vs:=_) F F) (ad (bE (vs:=_) F F) (aj F (aj F ?_))))
 refine dX (O':=[oI z9 25 (dC M k2),oI z8 25 (dC j4 k3),oI z1 25 (dC j4 k1),dI 56 4 3 M k2,dI 56 4 3 j4 k3,dI 56 4 3 j4 k1]) (by exact Sub.d (.k (.k (.k (.k (.k (.k .z))))))) ?_
 refine ae (ai (ao F (cN (v:=vI 1) cL bj F F F (fun z12=>?_))))
 refine ao F (cN (v:=vI 2) cL bj F F F (fun nN=>?_))
 refine ao F (cN (v:=vI 2) cL bj F F F (fun Bw=>?_))
 refine ao F (cz (m:=3) (parts:=[(0,.tmp 42),(1,.tmp 43),(2,.tmp 44)]) (cs:=[(.slice (aD z12) 1 1),(.slice (aD nN) 1 1),(.slice (aD Bw) 1 1)]) e_ cV (by decide) (by kernel_rfl) F (fun FT=>?_))
 refine ao F (cz (m:=3) (parts:=[(0,.const (.bool false)),(1,.const (.bool true)),(2,.const (.bool false))]) (cs:=[.bool false,.bool true,.bool false]) eB fx (by decide) (by kernel_rfl) F (fun V4=>?_))
 refine ad (cE (cs:=[(vI 0),(vI 0),(.slice (aD FT) 3 3),(.slice (aD V4) 3 3)]) jp bL (by kernel_rfl)) (ao F (bl V5 (aX fun w1 hI=>(haveI:=et hI;V3 w1 ⟨some ⟨FT,0,none⟩,3,some ⟨V4,0,none⟩,3,[⟨some ⟨z12,0,none⟩,1,[1]⟩,⟨some ⟨nN,0,none⟩,1,[2]⟩,⟨some ⟨Bw,0,none⟩,1,[2]⟩]⟩ (V2 (hI.ii (mG 1 F)) F (List.forall_mem_cons.2 ⟨hI.ii (cs:=ints [1]) (mG 4 F),List.forall_mem_cons.2 ⟨hI.ii (cs:=ints [2]) (mG 3 F),List.forall_mem_cons.2 ⟨hI.ii (cs:=ints [2]) (mG 2 F),fun _ h=>by cases h⟩⟩⟩) (hI.ii (mG 0 rfl))))) rfl ?_))
 rintro vr O' ⟨N,rfl,b4,c4,rfl,rfl⟩
 refine ah F (ad (bE (vs:=_) F F) (ad (bE (vs:=_) F F) (aj F (aj F ?_))))
 refine dX (O':=[oI z9 25 (dC M k2),oI z8 25 (dC j4 k3),oI z1 25 (dC j4 k1),aq b4 c4 72 5 (bt FP),dI 56 4 3 M k2,dI 56 4 3 j4 k3,dI 56 4 3 j4 k1]) (by exact Sub.ew [aq b4 c4 72 5 (bt FP),aq (aD V4) 3 4 1 [.bool false,.bool true,.bool false],aq (aD FT) 3 56 1 [(.slice (aD z12) 1 1),(.slice (aD nN) 1 1),(.slice (aD Bw) 1 1)],aq (aD Bw) 1 3 1 [vI 2],aq (aD nN) 1 3 1 [vI 2],aq (aD z12) 1 3 1 [vI 1]] _ (.ew [aq b4 c4 72 5 (bt FP),aq (aD V4) 3 4 1 [.bool false,.bool true,.bool false],aq (aD FT) 3 56 1 [(.slice (aD z12) 1 1),(.slice (aD nN) 1 1),(.slice (aD Bw) 1 1)],aq (aD Bw) 1 3 1 [vI 2],aq (aD nN) 1 3 1 [vI 2],aq (aD z12) 1 3 1 [vI 1]] _ (.ew [aq b4 c4 72 5 (bt FP),aq (aD V4) 3 4 1 [.bool false,.bool true,.bool false],aq (aD FT) 3 56 1 [(.slice (aD z12) 1 1),(.slice (aD nN) 1 1),(.slice (aD Bw) 1 1)],aq (aD Bw) 1 3 1 [vI 2],aq (aD nN) 1 3 1 [vI 2],aq (aD z12) 1 3 1 [vI 1]] _ (.k (.d (.d (.d (.d (.d (.k (.k (.k .z)))))))))))) ?_
 refine ae (ai (ah F (ad (aB (bJ F F) (ay (by first|rfl|decide))) (ah F (aG F F (eu 2 cZ F bL F F F) (aG F F (eu 1 cZ F bL F F F) ?_))))))
 refine iD F F F (bl V6 (aX fun w1 hI=>(haveI:=et hI;eqS w1 k1 k3 (hI.at (mG 6 F)) (hI.at (mG 5 F)))) F ?_)
 rintro vr O' ⟨N,rfl,rfl,rfl⟩
 refine ad (cA F F) (ah F (aG F F (aN F) (aG F F (aB (bJ F F) (ay (by first|rfl|decide))) (ad (cA F F) (ah F (aG F F (aN F) (ad (cA F F) (ah F (aG F F (aN F) (aG F F (aB (bJ F F) (ay (by first|rfl|decide))) ?_))))))))))
 refine ad (cA F F) (ah F (aG F F (aN F) (aG F F (jh F) (ad (cA F F) (ah F (aG F F (aN F) (aG F F (aB (bJ F F) (ay (by first|rfl|decide))) (ad (cA F F) (ah F (aG F F (aN F) ?_))))))))))
 refine aG F F (aB (bJ F F) (ay (by first|rfl|decide))) (ad (cA F F) (ah F (aG F F (aN F) ?_)))
 refine iD F F F (bl J9 (aW VU) F ?_)
 rintro vr O' ⟨N,rfl,b3,c3,rfl,rfl⟩
 refine iD F F F (bl V7 (aX fun w1 hI=>(haveI:=et hI;(show cH _ _ _ _ _ from by
   have h9:=N6 w1 b4 b3 c4 c3 FP FP (hI.ii (mG 4 F)) (hI.ii (mG 0 F)) (by decide)
   rw[ay F]at h9
   exact h9))) F ?_)
 rintro vr O' ⟨N,rfl,rfl,rfl⟩
 refine ad (cA F F) (aj F (ae (aK (aA ?_))))
 refine aS (.bool true) Tryz.results11 F ?_
 exact⟨[],Sub.z,F,F⟩
end Go.Proofs.YtgdbfideeeegmaaGreatDoor

namespace Go.Proofs.YtgdbfideeeegmaaGreatDoor
open Go.Lx Go.RowKit _root_.Go.Proofs.Tryz
theorem Ha (w:World) [dE Tryz.prog w] (b:Option Addr) (c:Nat) (e:List dK) (hE:Sl w b (bt e)) (wl:e.length<4611686018427387904) (lF: ∀x∈e,x.p<256∧x.n<256) (vars:Int) (wb:Option Addr) (wc:Nat) (l:List Nat) (hW:Sl w wb (p7 l)) (Pt: ∀x∈l,x<256):
  cH Tryz.prog 7 [.slice b e.length c,vI vars,.slice wb l.length wc] w fun r N=>r=.bool true∧N=[]:=by
 refine aF func7 F ntmps7 F ?_
 refine ai (aj F (ae ?_))
 refine gz (fun ρ O=>Sub [] O∧(e.length≤24∧l.length≤60)∧dv [(0,(.slice b e.length c)),(1,vI vars),(2,(.slice wb l.length wc))] ρ) ?_ ?_
 ·refine aM ?_
  refine a7 (ah F (ao F (bl Xw (aX fun w1 hI=>(haveI:=et hI;X2 w1 b e.length c)) F ?_)))
  rintro vr O' ⟨N,rfl,rfl,rfl⟩
  by_cases X3:(24:Int)<((e.length:Nat):Int)
  ·refine ad (aB (aN F) (ay X3)) ?_
   refine aV F F (aV F F (aV F F (ad (cA F F) (ah F (aV F F (aV F F (ad (cA F F) (ae ?_))))))))
   refine bO F ?_
   refine ai (ao F (bl Lp (aW Em) F ?_))
   rintro vr O' ⟨N,rfl,rfl,rfl⟩
   refine aj F (ae (aK (aA ?_)))
   refine aS (.bool true) Tryz.results7 F ?_
   exact⟨[],Sub.z,F,F⟩
  refine ad (aB (aN F) (ak X3)) (aG F F (aN F) (aG F F (cQ lh F) (aG F F (iy F F) (ad (cg F F) ?_))))
  by_cases X4:(l.length:Int)>60
  ·refine ad (aB (aN F) (ay X4)) ?_
   refine aV F F (aV F F (ad (cA F F) (ae ?_)))
   refine bO F ?_
   refine ai (ao F (bl Lp (aW Em) F ?_))
   rintro vr O' ⟨N,rfl,rfl,rfl⟩
   refine aj F (ae (aK (aA ?_)))
   refine aS (.bool true) Tryz.results7 F ?_
   exact⟨[],Sub.z,F,F⟩
  refine ad (aB (aN F) (ak X4)) ?_
  refine iD F F F (bl Lp (aW Em) F ?_)
  rintro vr O' ⟨N,rfl,rfl,rfl⟩
  refine aG F F (jh F) (ad (cg F F) (ae (a6 F (aE ?_))))
  exact⟨(by exact Sub.rf),⟨by omega,by omega⟩,⟨F,F,F,trivial⟩⟩
 rintro ρ O ⟨hS,⟨D6,h60⟩,hH⟩
 obtain⟨gF,rfl⟩:=hH.elim
 clear hH
 refine dx hS ?_
 refine ai (ah F (ah F (ao F (bl Xx (aX fun w1 hI=>(haveI:=et hI;abb w1 b c e (hI.sl hE) wl lF vars)) F ?_))))
 rintro vr O' ⟨N,rfl,xb,xc,x,rfl,rfl,hx0,hxp,yY⟩
 refine ah F (ad (bE (vs:=_) F F) (ad (bE (vs:=_) F F) (aj F (aj F (ae (ai (ah F (ah F (ah F (ao F (bl QN (aX fun w1 hI=>(haveI:=et hI;X5 w1 b c e (hI.sl hE) wl lF vars 4096 (fun _=>D6) wb wc l (hI.sl hW) (by omega) Pt)) F ?_)))))))))))
 rintro vr O' ⟨N,rfl,x1,r1,rfl,rfl,hA1⟩
 refine ah F (ad (bE (vs:=_) F F) (ad (bE (vs:=_) F F) (aj F (aj F (ae ?_)))))
 refine iC [aq xb xc 72 5 (bt x)] [(0,(.slice b e.length c)),(1,vI vars),(2,(.slice wb l.length wc)),(7,(.slice xb x.length xc)),(8,vN (gw vars e)),(9,.bool x1),(10,vN r1)] F (.of F) (fun gF=>?_)
 refine ai (aj F (ae (aM (ai (ah F (ad (cQ lh F) (ad (fH F F (by omega)) (aj F (ae (aU (T.eX 5 1 ?_)))))))))))
 refine dO (fun(k:Nat) ρ O=> ∃(bb:Option Addr) (bc:Nat),O=[aq bb bc 5 1 (p7 (l.reverse.take k)),aq xb xc 72 5 (bt x)]∧k≤l.length∧dv [(0,(.slice b e.length c)),(1,vI vars),(2,(.slice wb l.length wc)),(7,(.slice xb x.length xc)),(8,vN (gw vars e)),(9,.bool x1),(10,vN r1),(11,(.slice bb k bc)),(12,vI ((l.length:Int)-1-(k:Int)))] ρ) (fun k=>l.length-k) 0 ?_ ?_
 ·exact⟨none,0,F,bn _,⟨F,F,F,F,F,F,F,F,ax (Value.int .i64) (by omega),trivial⟩⟩
 rintro k ρ O ⟨bb,bc,rfl,hk,hH⟩
 obtain⟨gF,rfl⟩:=hH.elim
 clear hH
 refine aM (ai (ah F (ad (lB F F) (ae (aP F (fun hc=>?_) (fun hc=>?_))))))
 ·have gn:k<l.length:=by omega
  refine aE (aM (aU (a7 (ah F (ah F (ad (bK (aN F) (v':=vN (l.length-1-k)) (ax (Value.int .i64) (by omega))) (ad (dU (i:=(l.length-1-k)) lh du F F (aL hW) (by omega) (by rw[ar];omega)) (ad (de fA F F (aL hW) (wV (by omega))) (ao F (cN (v:=v8 (l[l.length-1-k])) lh du F F F (fun z1=>?_)))))))))))
  refine ao F (cW 1 lh lh du F F F F (by rw[ar,ck,List.length_reverse];omega) (by decide) (Src.row (j:=0) F (by simp)) (by simp[fa]) (by omega) (by decide) (by decide) (fun z2 tx=>?_))
  refine aj F (ae (a7 (ah F (ad (fH F F (by omega)) (aj F (ae ?_))))))
  exact⟨k+1,by omega,[aq z2 tx 5 1 ((p7 (l.reverse.take k))++[v8 (l[l.length-1-k])]),aq xb xc 72 5 (bt x)],(by exact Sub.d (.k (.k .z))),_,_,(by rw[Mw (by omega)];simp only[p7,bm,cJ,fQ]),by omega,⟨F,F,F,F,F,F,F,F,ax (Value.int .i64) (by omega),trivial⟩⟩
 have RR:k=l.length:=by omega
 have hR:l.reverse.take k=l.reverse:=bw (by rw[List.length_reverse];omega)
 refine cK ?_
 refine ai (ah F (ah F (ah F (ao F (bl QN (aX fun w1 hI=>(haveI:=et hI;(by have h9:=X5 w1 xb xc x (hI.ii (mG 1 F)) (by omega) hxp vars 4096 (fun _=>by omega) bb bc l.reverse (by rw[←hR];exact hI.ii (mG 0 F)) (by rw[List.length_reverse];omega) (fun y hy=>Pt y (List.mem_reverse.1 hy));rwa[List.length_reverse,←RR]at h9))) F ?_)))))
 rintro vr O' ⟨N,rfl,x2,r2,rfl,rfl,hA2⟩
 refine ah F (ad (bE (vs:=_) F F) (ad (bE (vs:=_) F F) (aj F (aj F (ae ?_)))))
 refine iC [aq bb bc 5 1 (p7 (l.reverse.take k)),aq xb xc 72 5 (bt x)] [(0,(.slice b e.length c)),(1,vI vars),(2,(.slice wb l.length wc)),(7,(.slice xb x.length xc)),(8,vN (gw vars e)),(9,.bool x1),(10,vN r1),(11,(.slice bb k bc)),(12,vI ((l.length:Int)-1-(k:Int))),(13,.bool x2),(14,vN r2)] F (.of F) (fun gF=>?_)
 refine aM (ai (ah F (ad (dQ F F) (ae (aP F (fun hc=>?_) (fun hc=>?_))))))
 ·have ac4:(gw vars e)≠0:=by omega
  refine aM ?_
  have hb:=hA1.bad (by omega)
  refine a7 (ah F (ah F (ad (aB (bJ F F) (ay (by omega))) (aj F (ae (aK (aA ?_)))))))
  refine aS (.bool true) Tryz.results7 F ?_
  exact⟨[],Sub.z,F,F⟩
 have ac5: ¬(gw vars e)≠0:=by omega
 refine aE (aM ?_)
 have h0:gw vars e=0:=by omega
 have xt:=Fj lF h0 D6 hA1 (by rw[←hx0 h0];exact hA2)
 refine a7 (ah F (ad (bJ F F) ?_))
 by_cases X6:((r1:Nat):Int)=10
 ·refine ad (aB (aN F) (ay X6)) ?_
  refine aV F F (aV F F (ad (cA F F) (ah F (aV F F (aV F F (aV F F (aV F F (aV F F ?_))))))))
  refine aV F F (aV F F (aV F F (ad (cA F F) (aj F (ae (aK (aA ?_)))))))
  refine aS (.bool true) Tryz.results7 F ?_
  exact⟨[],Sub.z,F,F⟩
 refine ad (aB (aN F) (ak X6)) (aG F F (aN F) (aG F F (bJ F F) (ad (cg F F) ?_)))
 by_cases X7:((r2:Nat):Int)=10
 ·refine ad (aB (aN F) (ay X7)) ?_
  refine aV F F (aV F F (aV F F (aV F F (aV F F (aV F F (aV F F (aV F F ?_)))))))
  refine ad (cA F F) (aj F (ae (aK (aA ?_))))
  refine aS (.bool true) Tryz.results7 F ?_
  exact⟨[],Sub.z,F,F⟩
 refine ad (aB (aN F) (ak X7)) (aG F F (aN F) (aG F F (aN F) (aG F F (aB (bJ F F) (ay (by omega))) (aG F F (aN F) (aG F F (aN F) (aG F F (aN F) (aG F F (bK (Rs AG F F) (v':=.bool true) (by rcases xt with h|h|h<;>first|exact absurd h (by omega)|exact ax Value.bool (by rw[h.2];simp))) ?_)))))))
 refine aG F F (cA F F) (ad (cg F F) (aj F (ae (aK (aA ?_)))))
 refine aS (.bool true) Tryz.results7 F ?_
 exact⟨[],Sub.z,F,F⟩
end Go.Proofs.YtgdbfideeeegmaaGreatDoor


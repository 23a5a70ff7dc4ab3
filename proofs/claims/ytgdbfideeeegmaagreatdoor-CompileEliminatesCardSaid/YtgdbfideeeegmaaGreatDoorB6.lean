/- Contracts of functions of the program, and what they answer. Conditions: those each theorem names. -/
import Derived.Test.YtgdbfideeeegmaaGreatDoorA2
import Derived.Test.YtgdbfideeeegmaaGreatDoorB4
import Derived.Test.YtgdbfideeeegmaaGreatDoorB5
import Derived.Test.YtgdbfideeeegmaaGreatDoorB2
import Derived.Test.YtgdbfideeeegmaaGreatDoorA6
import Derived.Test.YtgdbfideeeegmaaGreatDoorB3
import Derived.Test.YtgdbfideeeegmaaGreatDoorA8
import Derived.Test.YtgdbfideeeegmaaGreatDoorA3
import Derived.Test.YtgdbfideeeegmaaGreatDoorA7
set_option linter.unusedSectionVars false
set_option linter.unusedSimpArgs false
set_option linter.unusedVariables false
set_option linter.unnecessarySimpa false
set_option maxHeartbeats 8000000
set_option maxRecDepth 20000
namespace Go.Proofs.YtgdbfideeeegmaaGreatDoor
open Go.Lx Go.RowKit _root_.Go.Proofs.Tryz
theorem MT (w:World) [cG Tryz.prog w] (d:bY) (k:DK) (h:At w d k) (hv:Valid d) (hn:d.next.length<10000) {M:bY} (hM:fY d=M):
  bs Tryz.prog 14 [(dV d k)] w (fun v N=> ∃b c,v=.tuple #[.slice b (sN M).length c,vN (w0 M)]∧N=[ak b c 72 5 (aT (sN M))]):=by
 refine av func14 F ntmps14 F ?_
 have mY:Valid M:=by rw[←hM];exact lx hv
 have MU:=mY.n4
 have GZ:=mY.n0
 have hL:cJ M≤64:=Nat.pow_le_pow_right (by decide) (show M.vars.toNat≤6 by have:=mY.v6;have:=mY.v0;omega)
 have w3:cJ M≤256:=by omega
 refine ai (aj F (cL (cs:=(dC d k)) F F (fun z1=>?_)))
 refine TO.qa F (TO.qa F (ae (ai (ad (cN 0 cy F aX F F F) (aj F (aI xO (aE fun w1 hI=>(haveI:=dp hI;AI w1 d k (hI.oH h) hv hn hM)) F ?_))))))
 rintro vr O' ⟨N,rfl,k2,rfl,rfl⟩
 refine ah F (ad (bm (vs:=_) F F) (ad (bm (vs:=_) F F) (aj F (aR aX F (fun z2=>?_)))))
 refine aj F (bj (vs:=(dC M k2)) 0 aX F F F F ?_)
 refine TO.qa F (ae (ax (ai (ah F (ad (ar (cS F F) (decide_eq_false (by decide))) (ae (aL F (aq (ax ?_)))))))))
 let kO:Lx.Item:=oI z2 25 (dC M k2)
 refine cu (O':=[dI 56 4 3 M k2,kO]) (by exact Sub.dL [kO] _ (.k .z)) ?_
 refine Cy (fun rJ=>?_)
 let gn:Lx.Item:=ak k2.fb k2.fc 4 1 (aU M.aA)
 let gN:Lx.Item:=ak k2.nb k2.nc 56 1 (bO k2.qs)
 refine cu (O':=([gN,gn,kO]++bl 3 k2.qs)) (by exact dm [gN,gn] _ (bl 3 k2.qs)) ?_
 have wO:=Hl rJ
 refine aH (ad (aJ cy F cU F F) (ad (aO 2 dB F F F F) (ad (bL dB F) (TO.qa F (ae (ai (ad (bE (cs:=[.int .u8 1,(.int .u8 0),(.int .u8 0),(vI 0),(vI 0)]) iy bQ (by kernel_rfl)) (aj F (aI AD (aE fun w1 hI=>(haveI:=dp hI;vo w1 1 ⟨1,0,0,0,0⟩)) F ?_)))))))))
 rintro vr O' ⟨N,rfl,q0,c0,rfl,rfl,uh,l6⟩
 have mN:dn q0 c0.r:=l6.elim id (fun h=>absurd h (by simp))
 refine bM (O':=([gN,gn,kO]++((aY 72 q0)++(bl 3 k2.qs)))) (by exact cQ [] _ (aY 72 q0) (bl 3 k2.qs)) ?_
 refine aj F (aR cg F (fun z3=>?_))
 refine aj F (bj (vs:=c0.cells) 0 cg F F F F ?_)
 refine ae (ai (ah F (aj F (bV (m:=M.next.length) vy mZ F F (by omega) (by omega) (fun z4=>?_)))))
 refine TO.qa F (ae (ax (ai (ad (aJ cy F cU F F) (ad (aO 4 dB F F F F) (ad (bL dB F) (ah F (ae (aC ?_)))))))))
 let kP:Lx.Item:=oI z3 69 c0.cells
 let pZ:Value:=(.slice (aD z4) M.next.length M.next.length)
 let AJ:Value:=(.pointer (aD z1))
 let KG:Value:=(.slice k2.nb M.next.length k2.nc)
 let CD:Value:=(.pointer (aD z2))
 let CE:Value:=(.pointer (aD z3))
 refine cE (fun(R:List MR) ρ O=> ∃(p:List ER),O=([ak (aD z4) M.next.length 75 1 (gJ R M.next.length),kP,gN,gn,kO]++(aY 72 p++(dz 69 R++bl 3 k2.qs)))∧R.length≤M.next.length∧n8 R p M.next.length (fU M 0)∧dn p c0.r∧bZ [(0,(dV d k)),(1,AJ),(2,nS),(3,vI 0),(4,CD),(5,vI 0),(6,vI (M.next.length:Int)),(7,CE),(8,pZ),(38,KG),(39,vI (M.next.length:Int)),(40,vN R.length)] ρ) (fun R=>M.next.length-R.length) [] ?_ ?_
 ·exact⟨q0,by unfold gJ jp;rfl,Nat.zero_le _,.nil,mN,(.of F)⟩
 rintro R ρ O ⟨p,rfl,hs,hR,mN,hH⟩
 obtain⟨eP,rfl⟩:=hH.elim
 clear hH
 have Z6:dv c0.pp:=by rw[uh];exact vx
 refine ai (ad (bI F F) (ae (ax (aw F (fun hc=>?_) (fun hc=>?_)))))
 ·have rK:R.length<M.next.length:=by omega
  have p6:R.length<k2.qs.length:=by omega
  refine aq (ax (aC (ai (ah F (ad (cq (i:=R.length) dB bP F F (cw (mG 2 F)) rK (by rw[List.length_map];exact p6)) (ad (bS bT F F (cw (mG 2 F)) (Hm p6)) (TO.qa F (TO.qa F (ae (ai (ah F (ah F (ae (aC (T.dt 69 2 ?_)))))))))))))))
  let xP:Value:=(.slice k2.qs[R.length].b k2.qs[R.length].xs.length k2.qs[R.length].c)
  refine cE (fun(l:List PR) ρ O=> ∃(p2:List ER) (cb:Option Addr) (cc:Nat),O=([ak cb cc 69 2 (dx l),ak (aD z4) M.next.length 75 1 (gJ (R++[⟨cb,cc,l⟩]) M.next.length),kP,gN,gn,kO]++(aY 72 p2++(dz 69 R++bl 3 k2.qs)))∧l.length≤M.next.length∧ul l p2 (fU M 0 R.length)∧n8 R p2 M.next.length (fU M 0)∧dn p2 c0.r∧bZ [(0,(dV d k)),(1,AJ),(2,nS),(3,vI 0),(4,CD),(5,vI 0),(6,vI (M.next.length:Int)),(7,CE),(8,pZ),(9,vN R.length),(10,xP),(38,KG),(39,vI (M.next.length:Int)),(40,vN R.length),(45,vI (M.next.length:Int)),(46,vN l.length)] ρ) (fun l=>M.next.length-l.length) [] ?_ ?_
  ·exact⟨p,none,0,by rw[AF rK];rfl,Nat.zero_le _,.nil,hR,mN,(.of F)⟩
  rintro l ρ O ⟨p2,cb,cc,rfl,ht,hl,sx,mN,hH⟩
  obtain⟨eP,rfl⟩:=hH.elim
  clear hH
  refine ai (ad (bI F F) (ae (ax (aw F (fun hc=>?_) (fun hc=>?_)))))
  ·have mv:l.length<M.next.length:=by omega
   refine aq (ax (aC (ai (ah F (TO.qa F (ae (ai (ad (cN 2 eL F cg F F F) (aj F (aR cg F (fun z5=>?_)))))))))))
   refine aj F (bj (vs:=c0.cells) 0 cg F F F F ?_)
   refine ae ?_
   let kn:Lx.Item:=ak (aD z4) M.next.length 75 1 (gJ (R++[⟨cb,cc,l⟩]) M.next.length)
   let wP:Lx.Item:=ak cb cc 69 2 (dx l)
   refine fg (fun ρ O=> ∃(p3:List ER) (pc:PR),Sub ([oI z5 69 pc.cells,wP,kn,kP,gN,gn,kO]++(aY 72 p3++(dz 69 R++bl 3 k2.qs))) O∧pc.pp=vv M R.length l.length 0∧dn p3 pc.r∧(∀y∈p2,y∈p3)∧bZ [(0,(dV d k)),(1,AJ),(2,nS),(3,vI 0),(4,CD),(5,vI 0),(6,vI (M.next.length:Int)),(7,CE),(8,pZ),(9,vN R.length),(10,xP),(11,vN l.length),(12,(.pointer (aD z5))),(38,KG),(39,vI (M.next.length:Int)),(40,vN R.length),(45,vI (M.next.length:Int)),(46,vN l.length)] ρ) ?_ ?_
   ·refine ax ?_
    refine aH (ah F (ah F (ad (bo F F) (ae (aw F (fun hc=>?_) (fun hc=>?_))))))
    ·have MD:R.length=l.length:=by omega
     refine aH (ad (bE (cs:=[.int .u8 2,(.int .u8 0),(.int .u8 0),(vI 0),(vI 0)]) iy bQ (by kernel_rfl)) (aj F (aI AD (aE fun w1 hI=>(haveI:=dp hI;vo w1 2 ⟨2,0,0,0,0⟩)) F ?_)))
     rintro vr O' ⟨N,rfl,q1,c1,rfl,rfl,rL,l6⟩
     have lG:dn (q1++p2) c1.r:=jE l6 (fun x hx=>by simp at hx)
     refine bM (O':=([oI z5 69 c0.cells,wP,kn,kP,gN,gn,kO]++((aY 72 q1)++(aY 72 p2++(dz 69 R++bl 3 k2.qs))))) (by exact cQ [] _ (aY 72 q1) (aY 72 p2++(dz 69 R++bl 3 k2.qs))) ?_
     refine aj F (bj (vs:=c1.cells) 0 cg F F F F ?_)
     refine ae ?_
     exact⟨(q1++p2),c1,(by rw[iw,List.append_assoc];exact Sub.rf),by rw[rL];unfold vv;rw[if_pos (by omega)];rfl,lG,fun y hy=>List.mem_append_right _ hy,(.of F)⟩
    have DA: ¬R.length=l.length:=by omega
    refine aq ?_
    exact⟨p2,c0,(by exact Sub.rf),by rw[uh];unfold vv;rw[if_neg (by omega)];rfl,mN,fun y hy=>hy,(.of F)⟩
   rintro ρ O ⟨p3,pc,hS,uj,OE,KH,hH⟩
   obtain⟨eP,rfl⟩:=hH.elim
   clear hH
   refine cu hS ?_
   refine ax (ai (ah F (ad (a8 (bL bT F) (v':=vN (cJ M)) (by rw[yG rJ mY.toVal p6])) (ah F (ae (aC ?_))))))
   refine cE (fun(x:Nat) ρ O=> ∃(p4:List ER) (pd:PR),O=([oI z5 69 pd.cells,wP,kn,kP,gN,gn,kO]++(aY 72 p4++(dz 69 R++bl 3 k2.qs)))∧x≤cJ M∧pd.pp=vv M R.length l.length x∧dn p4 pd.r∧(∀y∈p2,y∈p4)∧bZ [(0,(dV d k)),(1,AJ),(2,nS),(3,vI 0),(4,CD),(5,vI 0),(6,vI (M.next.length:Int)),(7,CE),(8,pZ),(9,vN R.length),(10,xP),(11,vN l.length),(12,(.pointer (aD z5))),(38,KG),(39,vI (M.next.length:Int)),(40,vN R.length),(45,vI (M.next.length:Int)),(46,vN l.length),(55,xP),(56,vN (cJ M)),(57,vN x)] ρ) (fun x=>cJ M-x) 0 ?_ ?_
   ·exact⟨p3,pc,F,Nat.zero_le _,uj,OE,KH,(.of F)⟩
   rintro x ρ O ⟨p4,pd,rfl,hx,KI,vz,Ho,hH⟩
   obtain⟨eP,rfl⟩:=hH.elim
   clear hH
   refine ai (ad (bI F F) (ae (ax (aw F (fun hc=>?_) (fun hc=>?_)))))
   ·have Au:x<cJ M:=by omega
    refine aq (ax (aC (ai (ah F (ad (cq (i:=x) bT aM F F (cw (List.mem_append_right _ (List.mem_append_right _ (List.mem_append_right _ ((Hn p6)))))) (by rw[yG rJ mY.toVal p6];exact Au) (by rw[List.length_map,yG rJ mY.toVal p6];exact Au)) (ad (bS dh F F (cw (List.mem_append_right _ (List.mem_append_right _ (List.mem_append_right _ ((Hn p6)))))) (Sj rJ mY.toVal p6 Au)) (TO.qa F (TO.qa F (ae (ai (ah F (ah F (ad (bo F F) (ae (aw F (fun hc=>?_) (fun hc=>?_))))))))))))))))
    ·have Yu:dJ M R.length x=l.length:=by omega
     refine dO [(0,0),(1,0),(2,0),(3,0),(4,0),(5,0),(6,0),(7,0),(8,0),(9,0),(10,1),(11,2),(12,2)] ?_
     refine am F (cN 0 eL F cg F F F) (am F (aF F) (am F (ef dh eC F (by first|rfl|exact eZ ⟨by omega,by omega⟩|exact mm (by omega)|exact kj (by omega))) (am F (aF F) (am F (a8 (bL bT F) (v':=vN (cJ M)) (by rw[yG rJ mY.toVal p6])) (am F (gI (a:=(cJ M)) (b:=1) F F (by omega) (by omega)) (am F (aF F) (am F (gI (a:=((cJ M)-1)) (b:=x) F F (by omega) (by omega)) (am F (ef dh eC F (by first|rfl|exact eZ ⟨by omega,by omega⟩|exact mm (by omega)|exact kj (by omega))) (am F (bE (cs:=[.int .u8 3,v8 x,v8 (((cJ M)-1)-x),(vI 0),(vI 0)]) iy bQ (by kernel_rfl)) ?_)))))))))
     refine bJ F F (aI AD (aE fun w1 hI=>(haveI:=dp hI;vo w1 0 ⟨3,x,cJ M-1-x,0,0⟩)) F ?_)
     rintro vr O' ⟨N,rfl,q2,c2,rfl,rfl,n_,l6⟩
     refine⟨gd _ (by exact Sub.rf),?_⟩
     have rM:dn (q2++p4) c2.r:=jE l6 (fun x hx=>by simp at hx)
     have vz:=vz.mono (fun y hy=>List.mem_append_right q2 hy)
     have WE:dv pd.pp:=by rw[KI];exact oO w3 _ _ _ hx
     have CF:dv c2.pp:=by rw[n_];exact vw Au w3
     let Sk:List Lx.Item:=[oI z5 69 pd.cells,wP,kn,kP,gN,gn,kO]
     refine de (O':=(Sk++((aY 72 q2)++(aY 72 p4++(dz 69 R++bl 3 k2.qs))))) (by exact cQ [] _ (aY 72 q2) (aY 72 p4++(dz 69 R++bl 3 k2.qs))) ?_
     refine bq F F (aI Hp (aE fun w1 hI=>(haveI:=dp hI;OC w1 pd c2 (dn.sl (T:=72) hI (eh (fun it di=>List.mem_append_right _ (List.mem_append_left _ di)) (fun it di=>List.mem_append_right _ (List.mem_append_right _ (List.mem_append_left _ di)))) vz) WE (dn.sl (T:=72) hI (eh (fun it di=>List.mem_append_right _ (List.mem_append_left _ di)) (fun it di=>List.mem_append_right _ (List.mem_append_right _ (List.mem_append_left _ di)))) rM) CF)) F ?_)
     rintro vr O' ⟨N,rfl,q3,c3,rfl,rfl,Hq,l6⟩
     have qG:dn (q3++(q2++p4)) c3.r:=jE l6 (fun x hx=>by simp only[List.mem_cons,List.not_mem_nil,or_false]at hx;rcases hx with rfl|rfl;exact vz;exact rM)
     
     refine de (O':=(Sk++((aY 72 q3)++((aY 72 q2)++(aY 72 p4++(dz 69 R++bl 3 k2.qs)))))) (by exact cQ [] _ (aY 72 q3) ((aY 72 q2)++(aY 72 p4++(dz 69 R++bl 3 k2.qs)))) ?_
     refine bq F F (bj (vs:=c3.cells) 0 cg F F F F ?_)
     refine de (O':=([oI z5 69 c3.cells,wP,kn,kP,gN,gn,kO]++(aY 72 (q3++(q2++p4))++(dz 69 R++bl 3 k2.qs)))) (by simp only[iw,List.append_assoc];exact Sub.rf) ?_
     refine bu ?_
     refine aH (ad (cj (a:=x) (b:=1) F F (by omega)) (ah F (ae ?_)))
     have e9:c3.pp=vv M R.length l.length (x+1):=by rw[Hq,n_,KI,vv,if_pos (by omega)];rfl
     exact⟨x+1,by omega,[oI z5 69 c3.cells,wP,kn,kP,gN,gn,kO]++(aY 72 (q3++(q2++p4))++(dz 69 R++bl 3 k2.qs)),(by exact Sub.rf),(q3++(q2++p4)),c3,F,by omega,e9,qG,fun y hy=>List.mem_append_right _ (List.mem_append_right _ (Ho y hy)),(.of F)⟩
    have Yv: ¬dJ M R.length x=l.length:=by omega
    refine aq (aH (ad (cj (a:=x) (b:=1) F F (by omega)) (ah F (ae ?_))))
    exact⟨x+1,by omega,[oI z5 69 pd.cells,wP,kn,kP,gN,gn,kO]++(aY 72 p4++(dz 69 R++bl 3 k2.qs)),(by exact Sub.rf),p4,pd,F,by omega,by unfold vv;rw[if_neg (by omega)];exact KI,vz,Ho,(.of F)⟩
   have Sf: ¬x<cJ M:=by omega
   refine bn ?_
   refine T.ds ([oI z5 69 pd.cells,kn,kP,gN,gn,kO]++(aY 72 p4++(dz 69 R++bl 3 k2.qs))) [(0,0),(1,0),(2,0),(3,0),(4,0),(5,0),(6,0),(7,1),(8,1),(9,0),(10,2)] (by exact Sub.k (.d (.k (.k (.k (.k (.k .rf))))))) ?_
   refine am F (aF F) (am F (aF F) (am F (aF F) (am F (aF F) (am F (cq (i:=R.length) vy mZ F F (cw (mG 1 F)) rK (by rw[kz (by simp;omega)];exact rK)) (am F (bS ky F F (cw (mG 1 F)) (AG (by omega) ⟨cb,cc,l⟩)) (am F (cN 0 eL F cg F F F) ?_))))))
   refine bJ F F (bH (m:=1) (parts:=[(0,_)]) (cs:=pd.cells) ky cg (by decide) (by kernel_rfl) F (fun z6=>⟨by exact Sub.d (.k (.d (.k (.k (.k (.k (.k .rf))))))),?_⟩))
   refine bJ F F (bX 2 ky ky cg F F F F (by rw[fS]) (by decide) (Src.row (j:=0) F (by simp)) (by simp[dD]) (by dsimp only;omega) (by decide) (by decide) (fun z7 AK=>⟨by exact Sub.d (.k (.d (.k (.k (.k (.k (.k .rf))))))),?_⟩))
   refine am F (cq (i:=R.length) vy mZ F F (cw (mG 1 F)) rK (by rw[kz (by simp;omega)];exact rK)) ?_
   refine bq F F (jW (j:=R.length) (v:=(.slice z7 (l.length+1) AK)) (vs:=[(.slice z7 (l.length+1) AK)]) (cs:=gJ (R++[⟨cb,cc,l⟩]) M.next.length) 3 mZ F F F F F (by simp) F (by rw[kz (by simp;omega)];simp;omega) ?_)
   let Sm:Lx.Item:=ak (aD z4) M.next.length 75 1 (gJ (R++[⟨z7,AK,l++[pd]⟩]) M.next.length)
   refine de (O':=([ak (aD z6) 1 69 2 pd.cells,oI z5 69 pd.cells,ak z7 AK 69 2 ((dx l)++pd.cells),Sm,kP,gN,gn,kO]++(aY 72 p4++(dz 69 R++bl 3 k2.qs)))) (by rw[show dl (gJ (R++[⟨cb,cc,l⟩]) M.next.length) R.length [(.slice z7 (l.length+1) AK)]=gJ (R++[⟨z7,AK,l++[pd]⟩]) M.next.length from(by rw[←xN (by omega) ⟨cb,cc,l⟩ ⟨z7,AK,l++[pd]⟩,show(⟨z7,AK,l++[pd]⟩:MR).val=.slice z7 (l.length+1) AK by simp[MR.val]];rfl)];exact a_ (List.Sublist.refl _)) ?_
   refine bu ?_
   refine aH (ad (cj (a:=l.length) (b:=1) F F (by omega)) (ah F (ae ?_)))
   exact⟨l++[pd],by simp;omega,[ak z7 AK 69 2 (dx (l++[pd])),Sm,kP,gN,gn,kO]++(aY 72 p4++(dz 69 R++bl 3 k2.qs)),(by rw[rG];exact(by exact Sub.d (.d (.k (.k (.k (.k (.k (.k .rf))))))))),p4,z7,AK,F,by simp;omega,(hl.mono Ho).snoc (KI.trans (by rw[show x=cJ M by omega];rfl)) vz,sx.mono Ho,mN.mono Ho,⟨F,F,F,F,F,F,F,F,F,F,F,F,F,F,F,(congrArg (fun n9:Nat=>Value.int .i64 ((n9:Nat):Int)) (show l.length+1=(l++[pd]).length by simp)),trivial⟩⟩
  have mw: ¬l.length<M.next.length:=by omega
  refine bn ?_
  refine aH (ad (cj (a:=R.length) (b:=1) F F (by omega)) (ah F (ae ?_)))
  have MV:l.length=M.next.length:=by omega
  exact⟨R++[⟨cb,cc,l⟩],by simp;omega,[ak (aD z4) M.next.length 75 1 (gJ (R++[⟨cb,cc,l⟩]) M.next.length),kP,gN,gn,kO]++(aY 72 p2++(dz 69 (R++[⟨cb,cc,l⟩])++bl 3 k2.qs)),(by rw[AE];exact tv [ak (aD z4) M.next.length 75 1 (gJ (R++[⟨cb,cc,l⟩]) M.next.length),oI z3 69 c0.cells,ak k2.nb k2.nc 56 1 (bO k2.qs),ak k2.fb k2.fc 4 1 (aU M.aA),oI z2 25 (dC M k2)] [ak cb cc 69 2 (dx l),ak (aD z4) M.next.length 75 1 (gJ (R++[⟨cb,cc,l⟩]) M.next.length),oI z3 69 c0.cells,ak k2.nb k2.nc 56 1 (bO k2.qs),ak k2.fb k2.fc 4 1 (aU M.aA),oI z2 25 (dC M k2)] (aY 72 p2) (dz 69 R) (bl 3 k2.qs) (ak cb cc 69 2 (dx l)) (by exact Sub.dL [ak cb cc 69 2 (dx l)] _ (.dL [ak cb cc 69 2 (dx l)] _ (.dL [ak cb cc 69 2 (dx l)] _ (.dL [ak cb cc 69 2 (dx l)] _ (.dL [ak cb cc 69 2 (dx l)] _ (.k .z))))))),p2,F,by simp;omega,sx.snoc MV hl,mN,⟨F,F,F,F,F,F,F,F,F,F,F,(congrArg (fun n9:Nat=>Value.int .i64 ((n9:Nat):Int)) (show R.length+1=(R++[(⟨cb,cc,l⟩:MR)]).length by simp)),trivial⟩⟩
 have Sn: ¬R.length<M.next.length:=by omega
 refine bn ?_
 refine ax (ai (ah F (ah F (ae (aC ?_)))))
 have WF:R.length=M.next.length:=by omega
 have Z7:=xM WF
 refine cE (fun(k9:Nat) ρ O=> ∃(R:List MR) (p:List ER) (ob:Option Addr) (oc:Nat),O=([ak ob oc 75 1 (jp R),kP,gN,gn,kO]++(aY 72 p++(dz 69 R++bl 3 k2.qs)))∧k9≤M.next.length∧R.length=M.next.length∧n8 R p M.next.length (fU M k9)∧dn p c0.r∧bZ [(0,(dV d k)),(1,AJ),(2,nS),(3,vI 0),(4,CD),(5,vI 0),(6,vI (M.next.length:Int)),(7,CE),(8,(.slice ob M.next.length oc)),(90,vI (M.next.length:Int)),(91,vN k9)] ρ) (fun k9=>M.next.length-k9) 0 ?_ ?_
 ·exact⟨R,p,(aD z4),M.next.length,by rw[Z7],Nat.zero_le _,WF,hR,mN,(.of F)⟩
 rintro k9 ρ O ⟨R,p,ob,oc,rfl,nF,WF,hR,mN,hH⟩
 obtain⟨eP,rfl⟩:=hH.elim
 clear hH
 refine ai (ad (bI F F) (ae (ax (aw F (fun hc=>?_) (fun hc=>?_)))))
 ·have MW:k9<M.next.length:=by omega
  refine aq (ax (aC (ai (ah F (TO.qa F (ae (ai (ah F (aj F (bV (m:=M.next.length) vy mZ F F (by omega) (by omega) (fun z9=>?_)))))))))))
  refine TO.qa F (ae (ax (ai (ah F (ah F (ae (aC ?_)))))))
  let oP:Lx.Item:=ak ob oc 75 1 (jp R)
  refine cE (fun(R2:List MR) ρ O=> ∃(p2:List ER),O=([ak (aD z9) M.next.length 75 1 (gJ R2 M.next.length),oP,kP,gN,gn,kO]++(aY 72 p2++(dz 69 R2++(dz 69 R++bl 3 k2.qs))))∧R2.length≤M.next.length∧n8 R2 p2 M.next.length (fU M (k9+1))∧n8 R p2 M.next.length (fU M k9)∧dn p2 c0.r∧bZ [(0,(dV d k)),(1,AJ),(2,nS),(3,vI 0),(4,CD),(5,vI 0),(6,vI (M.next.length:Int)),(7,CE),(8,(.slice ob M.next.length oc)),(15,vN k9),(16,(.slice (aD z9) M.next.length M.next.length)),(90,vI (M.next.length:Int)),(91,vN k9),(96,vI (M.next.length:Int)),(97,vN R2.length)] ρ) (fun R2=>M.next.length-R2.length) [] ?_ ?_
  ·exact⟨p,by unfold gJ jp;rfl,Nat.zero_le _,.nil,hR,mN,(.of F)⟩
  rintro R2 ρ O ⟨p2,rfl,hs,sx,hR,mN,hH⟩
  obtain⟨eP,rfl⟩:=hH.elim
  clear hH
  refine ai (ad (bI F F) (ae (ax (aw F (fun hc=>?_) (fun hc=>?_)))))
  ·have xH:R2.length<M.next.length:=by omega
   refine aq (ax (aC (ai (ah F (TO.qa F (ae (ai (ah F (ah F (ae (aC (T.dt 69 2 ?_))))))))))))
   refine cE (fun(l:List PR) ρ O=> ∃(p3:List ER) (cb:Option Addr) (cc:Nat),O=([ak cb cc 69 2 (dx l),ak (aD z9) M.next.length 75 1 (gJ (R2++[⟨cb,cc,l⟩]) M.next.length),oP,kP,gN,gn,kO]++(aY 72 p3++(dz 69 R2++(dz 69 R++bl 3 k2.qs))))∧l.length≤M.next.length∧ul l p3 (fU M (k9+1) R2.length)∧n8 R2 p3 M.next.length (fU M (k9+1))∧n8 R p3 M.next.length (fU M k9)∧dn p3 c0.r∧bZ [(0,(dV d k)),(1,AJ),(2,nS),(3,vI 0),(4,CD),(5,vI 0),(6,vI (M.next.length:Int)),(7,CE),(8,(.slice ob M.next.length oc)),(15,vN k9),(16,(.slice (aD z9) M.next.length M.next.length)),(17,vN R2.length),(90,vI (M.next.length:Int)),(91,vN k9),(96,vI (M.next.length:Int)),(97,vN R2.length),(100,vI (M.next.length:Int)),(101,vN l.length)] ρ) (fun l=>M.next.length-l.length) [] ?_ ?_
   ·exact⟨p2,none,0,by rw[AF xH];rfl,Nat.zero_le _,.nil,sx,hR,mN,(.of F)⟩
   rintro l ρ O ⟨p3,cb,cc,rfl,ht,hl,Sp,tw,mN,hH⟩
   obtain⟨eP,rfl⟩:=hH.elim
   clear hH
   refine ai (ad (bI F F) (ae (ax (aw F (fun hc=>?_) (fun hc=>?_)))))
   ·have Hr:l.length<M.next.length:=by omega
    have Fq:R2.length<R.length:=by omega
    have l7:k9<R.length:=by omega
    obtain⟨a1,Z8,DR,AL⟩:=tw.at Fq Hr
    obtain⟨a2,Z9,Sq,KJ⟩:=tw.at Fq MW
    obtain⟨a3,Z_,Yw,Sr⟩:=tw.at l7 MW
    obtain⟨a4,ea4,Yx,FB⟩:=tw.at l7 Hr
    have WG:dv a1.pp:=by rw[DR];exact eH w3 _ _ _
    have Ss:dv a2.pp:=by rw[Sq];exact eH w3 _ _ _
    have Su:dv a3.pp:=by rw[Yw];exact eH w3 _ _ _
    have Sv:dv a4.pp:=by rw[Yx];exact eH w3 _ _ _
    have aab:=tw.len _ (List.getElem_mem Fq)
    have aac:=tw.len _ (List.getElem_mem l7)
    refine aq (ax (aC (ai (ah F (TO.qa F (ae ?_))))))
    let dS:List Lx.Item:=[ak (aD z9) M.next.length 75 1 (gJ (R2++[⟨cb,cc,l⟩]) M.next.length),ak ob oc 75 1 (jp R),oI z3 69 c0.cells,ak k2.nb k2.nc 56 1 (bO k2.qs),ak k2.fb k2.fc 4 1 (aU M.aA),oI z2 25 (dC M k2)]
    refine T.ds (dS++(aY 72 p3++(dz 69 R2++(dz 69 R++bl 3 k2.qs)))) [(0,0),(1,0),(2,0),(3,0),(4,0),(5,0),(6,0),(7,0),(8,0),(9,0),(10,0),(11,0),(12,0),(13,0),(14,0),(15,0),(16,0),(17,0),(18,0),(19,0),(20,0),(21,0),(22,0),(23,0),(24,0),(25,0),(26,0),(29,0),(30,0),(31,0),(32,0),(33,0),(34,0),(35,0),(27,1),(28,1),(36,1),(37,1),(38,1),(39,1),(40,0),(41,2)] (by exact Sub.d (.k (.k (.k (.k (.k (.k .rf))))))) ?_
    refine am F (aF F) (am F (aF F) (am F (aF F) (am F (aF F) (am F (cq (i:=R2.length) vy mZ F F (cw (mG 0 F)) xH (by rw[kz (by simp;omega)];exact xH)) (am F (bS ky F F (cw (mG 0 F)) (AG (by omega) ⟨cb,cc,l⟩)) (am F (aF F) (am F (aF F) (am F (cq (i:=R2.length) vy mZ F F (cw (mG 1 F)) (by omega) (by rw[mX];exact Fq)) (am F (bS ky F F (cw (mG 1 F)) (mW Fq)) (am F (aF F) (am F (db (i:=l.length) ky cg F F (cw (List.mem_append_right _ (List.mem_append_right _ (List.mem_append_right _ (List.mem_append_left _ (iT Fq)))))) (by omega) (by rw[fS];omega)) (am F (dT (vs:=a1.cells) eL F cg F F (Nat.succ_pos _) (cw (List.mem_append_right _ (List.mem_append_right _ (List.mem_append_right _ (List.mem_append_left _ (iT Fq)))))) (lF Z8)) (am F (aF F) (am F (aF F) (am F (cq (i:=R2.length) vy mZ F F (cw (mG 1 F)) (by omega) (by rw[mX];exact Fq)) (am F (bS ky F F (cw (mG 1 F)) (mW Fq)) (am F (aF F) (am F (db (i:=k9) ky cg F F (cw (List.mem_append_right _ (List.mem_append_right _ (List.mem_append_right _ (List.mem_append_left _ (iT Fq)))))) (by omega) (by rw[fS];omega)) (am F (dT (vs:=a2.cells) eL F cg F F (Nat.succ_pos _) (cw (List.mem_append_right _ (List.mem_append_right _ (List.mem_append_right _ (List.mem_append_left _ (iT Fq)))))) (lF Z9)) (am F (aF F) (am F (aF F) (am F (cq (i:=k9) vy mZ F F (cw (mG 1 F)) (by omega) (by rw[mX];exact l7)) (am F (bS ky F F (cw (mG 1 F)) (mW l7)) (am F (aF F) (am F (db (i:=k9) ky cg F F (cw (List.mem_append_right _ (List.mem_append_right _ (List.mem_append_right _ (List.mem_append_left _ (iT l7)))))) (by omega) (by rw[fS];omega)) (am F (dT (vs:=a3.cells) eL F cg F F (Nat.succ_pos _) (cw (List.mem_append_right _ (List.mem_append_right _ (List.mem_append_right _ (List.mem_append_left _ (iT l7)))))) (lF Z_)) (am F (aF F) (am F (aF F) (am F (cq (i:=k9) vy mZ F F (cw (mG 1 F)) (by omega) (by rw[mX];exact l7)) (am F (bS ky F F (cw (mG 1 F)) (mW l7)) (am F (aF F) ?_)))))))))))))))))))))))))))))))
    refine am F (db (i:=l.length) ky cg F F (cw (List.mem_append_right _ (List.mem_append_right _ (List.mem_append_right _ (List.mem_append_left _ (iT l7)))))) (by omega) (by rw[fS];omega)) (am F (dT (vs:=a4.cells) eL F cg F F (Nat.succ_pos _) (cw (List.mem_append_right _ (List.mem_append_right _ (List.mem_append_right _ (List.mem_append_left _ (iT l7)))))) (lF ea4)) ?_)
    refine bJ F F (aI Sw (aE fun w1 hI=>(haveI:=dp hI;OD w1 a3 (dn.sl (T:=72) hI (fun it di=>List.mem_append_right _ (List.mem_append_left _ di)) Sr) Su)) F ?_)
    rintro vr O' ⟨N,rfl,q1,c1,rfl,rfl,rL,l6⟩
    refine⟨gd _ (by exact Sub.d (.k (.k (.k (.k (.k (.k .rf))))))),?_⟩
    have lG:dn (q1++p3) c1.r:=jE l6 (fun x hx=>by simp only[List.mem_cons,List.not_mem_nil,or_false]at hx;rcases hx with rfl;exact Sr)
    have KK:dv c1.pp:=by rw[rL];exact qD Su
    have AL:=AL.mono (fun y hy=>List.mem_append_right q1 hy)
    have KJ:=KJ.mono (fun y hy=>List.mem_append_right q1 hy)
    have FB:=FB.mono (fun y hy=>List.mem_append_right q1 hy)
    let gz:List Lx.Item:=[ak cb cc 69 2 (dx l),ak (aD z9) M.next.length 75 1 (gJ (R2++[⟨cb,cc,l⟩]) M.next.length),ak ob oc 75 1 (jp R),oI z3 69 c0.cells,ak k2.nb k2.nc 56 1 (bO k2.qs),ak k2.fb k2.fc 4 1 (aU M.aA),oI z2 25 (dC M k2)]
    refine de (O':=(gz++((aY 72 q1)++(aY 72 p3++(dz 69 R2++(dz 69 R++bl 3 k2.qs)))))) (by exact cQ [] _ (aY 72 q1) (aY 72 p3++(dz 69 R2++(dz 69 R++bl 3 k2.qs)))) ?_
    refine bJ F F (aI MX (aE fun w1 hI=>(haveI:=dp hI;MS w1 a2 c1 (dn.sl (T:=72) hI (eh (fun it di=>List.mem_append_right _ (List.mem_append_left _ di)) (fun it di=>List.mem_append_right _ (List.mem_append_right _ (List.mem_append_left _ di)))) KJ) Ss (dn.sl (T:=72) hI (eh (fun it di=>List.mem_append_right _ (List.mem_append_left _ di)) (fun it di=>List.mem_append_right _ (List.mem_append_right _ (List.mem_append_left _ di)))) lG) KK)) F ?_)
    rintro vr O' ⟨N,rfl,q2,c2,rfl,rfl,n_,l6⟩
    refine⟨gd _ (cW dS gz (aY 72 q1) (aY 72 p3++(dz 69 R2++(dz 69 R++bl 3 k2.qs))) (by exact Sub.d (.k (.k (.k (.k (.k (.k .z)))))))),?_⟩
    have rM:dn (q2++(q1++p3)) c2.r:=jE l6 (fun x hx=>by simp only[List.mem_cons,List.not_mem_nil,or_false]at hx;rcases hx with rfl|rfl;exact KJ;exact lG)
    have CF:dv c2.pp:=by rw[n_];exact ll Ss KK
    have AL:=AL.mono (fun y hy=>List.mem_append_right q2 hy)
    have FB:=FB.mono (fun y hy=>List.mem_append_right q2 hy)
    refine de (O':=(gz++((aY 72 q2)++((aY 72 q1)++(aY 72 p3++(dz 69 R2++(dz 69 R++bl 3 k2.qs))))))) (by exact cQ [] _ (aY 72 q2) ((aY 72 q1)++(aY 72 p3++(dz 69 R2++(dz 69 R++bl 3 k2.qs))))) ?_
    refine bJ F F (aI MX (aE fun w1 hI=>(haveI:=dp hI;MS w1 c2 a4 (dn.sl (T:=72) hI (eh (fun it di=>List.mem_append_right _ (List.mem_append_left _ di)) (eh (fun it di=>List.mem_append_right _ (List.mem_append_right _ (List.mem_append_left _ di))) (fun it di=>List.mem_append_right _ (List.mem_append_right _ (List.mem_append_right _ (List.mem_append_left _ di)))))) rM) CF (dn.sl (T:=72) hI (eh (fun it di=>List.mem_append_right _ (List.mem_append_left _ di)) (eh (fun it di=>List.mem_append_right _ (List.mem_append_right _ (List.mem_append_left _ di))) (fun it di=>List.mem_append_right _ (List.mem_append_right _ (List.mem_append_right _ (List.mem_append_left _ di)))))) FB) Sv)) F ?_)
    rintro vr O' ⟨N,rfl,q3,c3,rfl,rfl,Hq,l6⟩
    refine⟨gd _ ((cW dS dS (aY 72 q1) (aY 72 p3++(dz 69 R2++(dz 69 R++bl 3 k2.qs))) Sub.rf).trans (cW dS gz (aY 72 q2) ((aY 72 q1)++(aY 72 p3++(dz 69 R2++(dz 69 R++bl 3 k2.qs)))) (by exact Sub.d (.k (.k (.k (.k (.k (.k .z))))))))),?_⟩
    have qG:dn (q3++(q2++(q1++p3))) c3.r:=jE l6 (fun x hx=>by simp only[List.mem_cons,List.not_mem_nil,or_false]at hx;rcases hx with rfl|rfl;exact rM;exact FB)
    have KL:dv c3.pp:=by rw[Hq];exact ll CF Sv
    have AL:=AL.mono (fun y hy=>List.mem_append_right q3 hy)
    refine de (O':=(gz++((aY 72 q3)++((aY 72 q2)++((aY 72 q1)++(aY 72 p3++(dz 69 R2++(dz 69 R++bl 3 k2.qs)))))))) (by exact cQ [] _ (aY 72 q3) ((aY 72 q2)++((aY 72 q1)++(aY 72 p3++(dz 69 R2++(dz 69 R++bl 3 k2.qs)))))) ?_
    refine bJ F F (aI Hp (aE fun w1 hI=>(haveI:=dp hI;OC w1 a1 c3 (dn.sl (T:=72) hI (eh (fun it di=>List.mem_append_right _ (List.mem_append_left _ di)) (eh (fun it di=>List.mem_append_right _ (List.mem_append_right _ (List.mem_append_left _ di))) (eh (fun it di=>List.mem_append_right _ (List.mem_append_right _ (List.mem_append_right _ (List.mem_append_left _ di)))) (fun it di=>List.mem_append_right _ (List.mem_append_right _ (List.mem_append_right _ (List.mem_append_right _ (List.mem_append_left _ di)))))))) AL) WG (dn.sl (T:=72) hI (eh (fun it di=>List.mem_append_right _ (List.mem_append_left _ di)) (eh (fun it di=>List.mem_append_right _ (List.mem_append_right _ (List.mem_append_left _ di))) (eh (fun it di=>List.mem_append_right _ (List.mem_append_right _ (List.mem_append_right _ (List.mem_append_left _ di)))) (fun it di=>List.mem_append_right _ (List.mem_append_right _ (List.mem_append_right _ (List.mem_append_right _ (List.mem_append_left _ di)))))))) qG) KL)) F ?_)
    rintro vr O' ⟨N,rfl,q4,c4,rfl,rfl,Sx,l6⟩
    refine⟨gd _ ((cW dS dS (aY 72 q1) (aY 72 p3++(dz 69 R2++(dz 69 R++bl 3 k2.qs))) Sub.rf).trans ((cW dS dS (aY 72 q2) ((aY 72 q1)++(aY 72 p3++(dz 69 R2++(dz 69 R++bl 3 k2.qs)))) Sub.rf).trans (cW dS gz (aY 72 q3) ((aY 72 q2)++((aY 72 q1)++(aY 72 p3++(dz 69 R2++(dz 69 R++bl 3 k2.qs))))) (by exact Sub.d (.k (.k (.k (.k (.k (.k .z)))))))))),?_⟩
    have KM:dn (q4++(q3++(q2++(q1++p3)))) c4.r:=jE l6 (fun x hx=>by simp only[List.mem_cons,List.not_mem_nil,or_false]at hx;rcases hx with rfl|rfl;exact AL;exact qG)
    have e9:c4.pp=fU M (k9+1) R2.length l.length:=by rw[Sx,Hq,n_,rL,DR,Sq,Yw,Yx];rfl
    refine de (O':=(gz++((aY 72 q4)++((aY 72 q3)++((aY 72 q2)++((aY 72 q1)++(aY 72 p3++(dz 69 R2++(dz 69 R++bl 3 k2.qs))))))))) (by exact cQ [] _ (aY 72 q4) ((aY 72 q3)++((aY 72 q2)++((aY 72 q1)++(aY 72 p3++(dz 69 R2++(dz 69 R++bl 3 k2.qs))))))) ?_
    let Sy:Lx.Item:=ak (aD z9) M.next.length 75 1 (gJ (R2++[⟨cb,cc,l⟩]) M.next.length)
    refine bJ F F (bH (m:=1) (parts:=[(0,_)]) (cs:=c4.cells) ky cg (by decide) (by kernel_rfl) F (fun uk=>⟨(cW dS dS (aY 72 q1) (aY 72 p3++(dz 69 R2++(dz 69 R++bl 3 k2.qs))) Sub.rf).trans ((cW dS dS (aY 72 q2) ((aY 72 q1)++(aY 72 p3++(dz 69 R2++(dz 69 R++bl 3 k2.qs)))) Sub.rf).trans ((cW dS dS (aY 72 q3) ((aY 72 q2)++((aY 72 q1)++(aY 72 p3++(dz 69 R2++(dz 69 R++bl 3 k2.qs))))) Sub.rf).trans (cW dS [ak (aD uk) 1 69 2 c4.cells,ak cb cc 69 2 (dx l),Sy,oP,kP,gN,gn,kO] (aY 72 q4) ((aY 72 q3)++((aY 72 q2)++((aY 72 q1)++(aY 72 p3++(dz 69 R2++(dz 69 R++bl 3 k2.qs)))))) (by exact Sub.d (.d (.k (.k (.k (.k (.k (.k .z))))))))))),?_⟩))
    refine bJ F F (bX 1 ky ky cg F F F F (by rw[fS]) (by decide) (Src.row (j:=0) F (by simp)) (by simp[dD]) (by dsimp only;omega) (by decide) (by decide) (fun mM iz=>⟨(cW dS dS (aY 72 q1) (aY 72 p3++(dz 69 R2++(dz 69 R++bl 3 k2.qs))) Sub.rf).trans ((cW dS dS (aY 72 q2) ((aY 72 q1)++(aY 72 p3++(dz 69 R2++(dz 69 R++bl 3 k2.qs)))) Sub.rf).trans ((cW dS dS (aY 72 q3) ((aY 72 q2)++((aY 72 q1)++(aY 72 p3++(dz 69 R2++(dz 69 R++bl 3 k2.qs))))) Sub.rf).trans (cW dS [ak (aD uk) 1 69 2 c4.cells,ak mM iz 69 2 ((dx l)++c4.cells),Sy,oP,kP,gN,gn,kO] (aY 72 q4) ((aY 72 q3)++((aY 72 q2)++((aY 72 q1)++(aY 72 p3++(dz 69 R2++(dz 69 R++bl 3 k2.qs)))))) (by exact Sub.d (.d (.k (.k (.k (.k (.k (.k .z))))))))))),?_⟩))
    refine am F (cq (i:=R2.length) vy mZ F F (cw (mG 0 F)) xH (by rw[kz (by simp;omega)];exact xH)) ?_
    refine bq F F (jW (j:=R2.length) (v:=(.slice mM (l.length+1) iz)) (vs:=[(.slice mM (l.length+1) iz)]) (cs:=gJ (R2++[⟨cb,cc,l⟩]) M.next.length) 2 mZ F F F F F (by simp) F (by rw[kz (by simp;omega)];simp;omega) ?_)
    let um:List Lx.Item:=[ak (aD uk) 1 69 2 c4.cells,ak mM iz 69 2 ((dx l)++c4.cells),ak (aD z9) M.next.length 75 1 (gJ (R2++[⟨mM,iz,l++[c4]⟩]) M.next.length),ak ob oc 75 1 (jp R),kP,gN,gn,kO]
    refine de (O':=(um++((aY 72 q4)++((aY 72 q3)++((aY 72 q2)++((aY 72 q1)++(aY 72 p3++(dz 69 R2++(dz 69 R++bl 3 k2.qs))))))))) (by rw[show dl (gJ (R2++[⟨cb,cc,l⟩]) M.next.length) R2.length [(.slice mM (l.length+1) iz)]=gJ (R2++[⟨mM,iz,l++[c4]⟩]) M.next.length from(by rw[←xN (by omega) ⟨cb,cc,l⟩ ⟨mM,iz,l++[c4]⟩,show(⟨mM,iz,l++[c4]⟩:MR).val=.slice mM (l.length+1) iz by simp[MR.val]];rfl)];exact a_ (List.Sublist.refl _)) ?_
    refine de (O':=(um++(aY 72 (q4++(q3++(q2++(q1++p3))))++(dz 69 R2++(dz 69 R++bl 3 k2.qs))))) (by simp only[iw,List.append_assoc];exact Sub.rf) ?_
    refine bu ?_
    refine aH (ad (cj (a:=l.length) (b:=1) F F (by omega)) (ah F (ae ?_)))
    have KH: ∀y∈p3,y∈(q4++(q3++(q2++(q1++p3)))):=fun y hy=>by simp[hy]
    exact⟨l++[c4],by simp;omega,[ak mM iz 69 2 (dx (l++[c4])),ak (aD z9) M.next.length 75 1 (gJ (R2++[⟨mM,iz,l++[c4]⟩]) M.next.length),oP,kP,gN,gn,kO]++(aY 72 (q4++(q3++(q2++(q1++p3))))++(dz 69 R2++(dz 69 R++bl 3 k2.qs))),(by rw[rG];exact(by exact Sub.d (.k (.k (.k (.k (.k (.k (.k .rf))))))))),(q4++(q3++(q2++(q1++p3)))),mM,iz,F,by simp;omega,(hl.mono KH).snoc e9 KM,Sp.mono KH,tw.mono KH,mN.mono KH,⟨F,F,F,F,F,F,F,F,F,F,F,F,F,F,F,F,F,(congrArg (fun n9:Nat=>Value.int .i64 ((n9:Nat):Int)) (show l.length+1=(l++[c4]).length by simp)),trivial⟩⟩
   have WH: ¬l.length<M.next.length:=by omega
   refine bn ?_
   refine aH (ad (cj (a:=R2.length) (b:=1) F F (by omega)) (ah F (ae ?_)))
   have MV:l.length=M.next.length:=by omega
   exact⟨R2++[⟨cb,cc,l⟩],by simp;omega,[ak (aD z9) M.next.length 75 1 (gJ (R2++[⟨cb,cc,l⟩]) M.next.length),oP,kP,gN,gn,kO]++(aY 72 p3++(dz 69 (R2++[⟨cb,cc,l⟩])++(dz 69 R++bl 3 k2.qs))),(by rw[AE];exact tv [ak (aD z9) M.next.length 75 1 (gJ (R2++[⟨cb,cc,l⟩]) M.next.length),ak ob oc 75 1 (jp R),oI z3 69 c0.cells,ak k2.nb k2.nc 56 1 (bO k2.qs),ak k2.fb k2.fc 4 1 (aU M.aA),oI z2 25 (dC M k2)] [ak cb cc 69 2 (dx l),ak (aD z9) M.next.length 75 1 (gJ (R2++[⟨cb,cc,l⟩]) M.next.length),ak ob oc 75 1 (jp R),oI z3 69 c0.cells,ak k2.nb k2.nc 56 1 (bO k2.qs),ak k2.fb k2.fc 4 1 (aU M.aA),oI z2 25 (dC M k2)] (aY 72 p3) (dz 69 R2) (dz 69 R++bl 3 k2.qs) (ak cb cc 69 2 (dx l)) (by exact Sub.dL [ak cb cc 69 2 (dx l)] _ (.dL [ak cb cc 69 2 (dx l)] _ (.dL [ak cb cc 69 2 (dx l)] _ (.dL [ak cb cc 69 2 (dx l)] _ (.dL [ak cb cc 69 2 (dx l)] _ (.dL [ak cb cc 69 2 (dx l)] _ (.k .z)))))))),p3,F,by simp;omega,Sp.snoc MV hl,tw,mN,⟨F,F,F,F,F,F,F,F,F,F,F,F,F,F,(congrArg (fun n9:Nat=>Value.int .i64 ((n9:Nat):Int)) (show R2.length+1=(R2++[(⟨cb,cc,l⟩:MR)]).length by simp)),trivial⟩⟩
  have Sd: ¬R2.length<M.next.length:=by omega
  refine bn ?_
  refine aH (ah F (TO.qa F (ae (aH (ad (cj (a:=k9) (b:=1) F F (by omega)) (ah F (ae ?_)))))))
  have Sz:R2.length=M.next.length:=by omega
  have WI:=xM Sz
  exact⟨k9+1,by omega,[ak (aD z9) M.next.length 75 1 (jp R2),kP,gN,gn,kO]++(aY 72 p2++(dz 69 R2++bl 3 k2.qs)),(by rw[←WI];exact AH [ak (aD z9) M.next.length 75 1 (gJ R2 M.next.length),oI z3 69 c0.cells,ak k2.nb k2.nc 56 1 (bO k2.qs),ak k2.fb k2.fc 4 1 (aU M.aA),oI z2 25 (dC M k2)] [ak (aD z9) M.next.length 75 1 (gJ R2 M.next.length),ak ob oc 75 1 (jp R),oI z3 69 c0.cells,ak k2.nb k2.nc 56 1 (bO k2.qs),ak k2.fb k2.fc 4 1 (aU M.aA),oI z2 25 (dC M k2)] (aY 72 p2) (dz 69 R2) (dz 69 R) (bl 3 k2.qs) (by exact Sub.k (.d (.k (.k (.k (.k .z))))))),R2,p2,(aD z9),M.next.length,F,by omega,Sz,sx,mN,(.of F)⟩
 have Yy: ¬k9<M.next.length:=by omega
 refine bn ?_
 refine ax ?_
 have SA:k9=M.next.length:=by omega
 have Rg:0<R.length:=by omega
 refine aH (ad (cN 1 eL F cg F F F) (aj F (aR cg F (fun sM=>?_))))
 refine aj F (bj (vs:=c0.cells) 0 cg F F F F ?_)
 refine ae (ax (ai (ad (aJ cy F ce F F) (ad (aO 5 dF F F F F) (ad (a8 (bL dF F) (v':=vN M.next.length) (by rw[mY.fin])) (ah F (ae (aC ?_))))))))
 let qH:Lx.Item:=ak ob oc 75 1 (jp R)
 refine cu (O':=([oI sM 69 c0.cells,qH,gN,gn]++(aY 72 p++(dz 69 R++bl 3 k2.qs)))) (by exact Sub.k (.k (.d (.k (.k (.d .rf)))))) ?_
 refine cE (fun(t:Nat) ρ O=> ∃(p2:List ER) (po:PR),O=([oI sM 69 po.cells,qH,gN,gn]++(aY 72 p2++(dz 69 R++bl 3 k2.qs)))∧t≤M.next.length∧po.pp=qF M t∧dn p2 po.r∧n8 R p2 M.next.length (fU M k9)∧bZ [(0,(dV d k)),(1,AJ),(2,nS),(3,vI 0),(5,vI 0),(6,vI (M.next.length:Int)),(8,(.slice ob M.next.length oc)),(19,(.pointer (aD sM))),(151,(.slice k2.fb M.aA.length k2.fc)),(152,vN M.next.length),(153,vN t)] ρ) (fun t=>M.next.length-t) 0 ?_ ?_
 ·exact⟨p,c0,F,Nat.zero_le _,uh,mN,hR,(.of F)⟩
 rintro t ρ O ⟨p2,po,rfl,ht,DS,vA,sx,hH⟩
 obtain⟨eP,rfl⟩:=hH.elim
 clear hH
 refine ai (ad (bI F F) (ae (ax (aw F (fun hc=>?_) (fun hc=>?_)))))
 ·have yH:t<M.next.length:=by omega
  obtain⟨a5,ea5,Yz,SB⟩:=sx.at Rg yH
  have WJ:dv a5.pp:=by rw[Yz];exact eH w3 _ _ _
  have OF:dv po.pp:=by rw[DS];exact jZ w3 _
  have aae:=sx.len _ (List.getElem_mem Rg)
  refine aq (ax (aC (ai (ah F (ad (cq (i:=t) dF dc F F (cw (mG 3 F)) (by rw[mY.fin];exact yH) (by rw[List.length_map,mY.fin];exact yH)) (ad (bS oe F F (cw (mG 3 F)) (l_ mY yH)) (TO.qa F (TO.qa F (ae (ai (ah F (ae (T.cond F (fun hc=>?_) (fun hc=>?_))))))))))))))
  ·have KN:dK M t=true:=hc
   refine dO [(0,0),(1,0),(2,0),(3,0),(4,0),(5,0),(6,0),(7,2),(8,2)] ?_
   refine am F (cN 0 eL F cg F F F) (am F (aF F) (am F (cq (i:=0) vy mZ F F (cw (mG 1 F)) (by omega) (by rw[mX];exact Rg)) (am F (bS ky F F (cw (mG 1 F)) (mW Rg)) (am F (aF F) (am F (db (i:=t) ky cg F F (cw (List.mem_append_right _ (List.mem_append_right _ (List.mem_append_left _ (iT Rg))))) (by omega) (by rw[fS];omega)) (am F (dT (vs:=a5.cells) eL F cg F F (Nat.succ_pos _) (cw (List.mem_append_right _ (List.mem_append_right _ (List.mem_append_left _ (iT Rg))))) (lF ea5)) ?_))))))
   refine bq F F (aI Hp (aE fun w1 hI=>(haveI:=dp hI;OC w1 po a5 (dn.sl (T:=72) hI (fun it di=>List.mem_append_right _ (List.mem_append_left _ di)) vA) OF (dn.sl (T:=72) hI (fun it di=>List.mem_append_right _ (List.mem_append_left _ di)) SB) WJ)) F ?_)
   rintro vr O' ⟨N,rfl,q6,c6,rfl,rfl,OG,l6⟩
   have FC:dn (q6++p2) c6.r:=jE l6 (fun x hx=>by simp only[List.mem_cons,List.not_mem_nil,or_false]at hx;rcases hx with rfl|rfl;exact vA;exact SB)
   
   refine de (O':=([oI sM 69 po.cells,qH,gN,gn]++((aY 72 q6)++(aY 72 p2++(dz 69 R++bl 3 k2.qs))))) (by exact cQ [] _ (aY 72 q6) (aY 72 p2++(dz 69 R++bl 3 k2.qs))) ?_
   refine bq F F (bj (vs:=c6.cells) 0 cg F F F F ?_)
   refine de (O':=([oI sM 69 c6.cells,qH,gN,gn]++(aY 72 (q6++p2)++(dz 69 R++bl 3 k2.qs)))) (by simp only[iw,List.append_assoc];exact Sub.rf) ?_
   refine bu ?_
   refine aH (ad (cj (a:=t) (b:=1) F F (by omega)) (ah F (ae ?_)))
   have e9:c6.pp=qF M (t+1):=by rw[OG,DS,Yz,SA,qF,if_pos KN]
   exact⟨t+1,by omega,[oI sM 69 c6.cells,qH,gN,gn]++(aY 72 (q6++p2)++(dz 69 R++bl 3 k2.qs)),(by exact Sub.rf),(q6++p2),c6,F,by omega,e9,FC,sx.mono (fun y hy=>List.mem_append_right _ hy),(.of F)⟩
  have KN: ¬dK M t=true:=by rw[hc];simp
  refine aq (aH (ad (cj (a:=t) (b:=1) F F (by omega)) (ah F (ae ?_))))
  exact⟨t+1,by omega,[oI sM 69 po.cells,qH,gN,gn]++(aY 72 p2++(dz 69 R++bl 3 k2.qs)),(by exact Sub.rf),p2,po,F,by omega,by rw[qF,if_neg KN];exact DS,vA,sx,(.of F)⟩
 have WK: ¬t<M.next.length:=by omega
 refine bn ?_
 refine ax (ai (ad (aJ eL F mu F F) (ad (aO 0 sL F F F F) (ad (bo F F) (ae (aw F (fun hc=>?_) (fun hc=>?_)))))))
 ·have OH:po.k=3:=by omega
  have qI:po.pp=wZ M:=by rw[DS,show t=M.next.length by omega];rfl
  refine ax (T.dt 72 5 ?_)
  refine aH (TO.qa F (TO.qa F (ae (az (ao ?_)))))
  refine ct nS (vI 4) Tryz.results14 F F ?_
  have h3:(wZ M).1=3:=by rw[←qI];exact OH
  have e1:sN M=[]:=if_pos h3
  have e2:w0 M=4:=if_pos h3
  exact⟨[ak none 0 72 5 []],(by exact Sub.k .z),none,0,by rw[e1,e2];rfl,by rw[e1];rfl⟩
 have OI: ¬po.k=3:=by omega
 have qI:po.pp=wZ M:=by rw[DS,show t=M.next.length by omega];rfl
 refine aq (ai (ad (aJ eL F eT F F) (ad (aO 0 cp F F F F) (TO.qa F (TO.qa F (ae (az (ao ?_))))))))
 refine ct (.slice po.r.b po.r.e.length po.r.c) (vI 0) Tryz.results14 F F ?_
 have h3: ¬(wZ M).1=3:=by rw[←qI];exact OI
 have e1:sN M=po.r.e:=(if_neg h3).trans (by rw[←qI];rfl)
 have e2:w0 M=0:=if_neg h3
 have rB:po.r.e≠ []:=by
  have:=(jZ (m:=M) w3 M.next.length).ne h3
  rw[show qF M M.next.length=po.pp from qI.symm]at this;exact this
 exact⟨[po.r.lZ 72],a_ (List.singleton_sublist.2 (List.mem_append_right _ (List.mem_append_left _ (List.mem_map.2 ⟨po.r,vA.resolve_right rB,F⟩)))),po.r.b,po.r.c,by rw[e1,e2];rfl,by rw[e1];rfl⟩
end Go.Proofs.YtgdbfideeeegmaaGreatDoor

namespace Go.Proofs.YtgdbfideeeegmaaGreatDoor
open Go.Lx Go.RowKit _root_.Go.Proofs.Tryz
noncomputable def tV (d:bY):List dE:=if bW d=0 then sN (fY d)else[]
noncomputable def tE (d:bY):Nat:=if bW d=0 then w0 (fY d)else bW d
theorem QN (d:bY):(tV d).length≤64:=by
 unfold tV;split
 ·rename_i he
  have hv:=lx (dr.1 he)
  have hL:cJ (fY d)≤64:=Nat.pow_le_pow_right (by decide) (show(fY d).vars.toNat≤6 by have:=hv.v6;have:=hv.v0;omega)
  unfold sN;split
  ·simp
  ·exact(jZ (m:=fY d) (by omega) _).len
 ·simp
theorem XJ (w:World) [cG Tryz.prog w] [cG Tryz.prog w] (d:bY) (k:DK) (h:At w d k) (hb:d.next.length<9223372036854775807) (jy: ∀r∈d.next,r.length<9223372036854775807) (j6:d.aA.length<9223372036854775807):bs Tryz.prog 14 [dV d k] w fun v N=> ∃b c,v=.tuple #[.slice b (tV d).length c,.int .i64 ((tE d:Nat):Int)]∧N=[ak b c 72 5 (aT (tV d))]:=by
 by_cases he:bW d=0
 ·have hv:=dr.1 he
  have e1:tV d=sN (fY d):=if_pos he
  have e2:tE d=w0 (fY d):=if_pos he
  rw[e1,e2]
  exact MT w d k h hv (by have:=hv.n4;omega) F
 ·have e1:tV d=[]:=if_neg he
  have e2:tE d=bW d:=if_neg he
  rw[e1,e2]
  exact Pb w d k h hb jy j6 he
theorem U5 (w:World) [cG Tryz.prog w] [cG Tryz.prog w] (d:bY) (k:DK) (h:At w d k) (hb:d.next.length<9223372036854775807) (jy: ∀r∈d.next,r.length<9223372036854775807) (j6:d.aA.length<9223372036854775807):bs Tryz.prog 13 [dV d k] w fun v N=> ∃b c,v=.tuple #[.slice b (tV d).length c,.int .i64 ((tE d:Nat):Int)]∧N=[ak b c 72 5 (aT (tV d))]:=by
 by_cases he:bW d=0
 ·have hv:=dr.1 he
  have e1:tV d=sN (fY d):=if_pos he
  have e2:tE d=w0 (fY d):=if_pos he
  rw[e1,e2]
  exact O9 w d k h hv (by have:=hv.n4;omega) F
 ·have e1:tV d=[]:=if_neg he
  have e2:tE d=bW d:=if_neg he
  rw[e1,e2]
  exact Ll w d k h hb jy j6 he
theorem U6 (w:World) [cG Tryz.prog w] [cG Tryz.prog w] (d:bY) (k:DK) (h:At w d k) (hb:d.next.length*24≤70368744177664) (jy: ∀r∈d.next,r.length*8≤70368744177664) (j6:d.aA.length*1≤70368744177664):
  bs Tryz.prog 12 [dV d k] w fun v N=> ∃k':DK,v=dV d k'∧N=[dI 56 4 3 d k']:=bw.dk (g:=id) (LX w d k.nb k.fb k.nc k.fc (bO k.qs) h hb jy j6)
theorem QO (w:World) [cG Tryz.prog w] [cG Tryz.prog w] (b:Option Addr) (a1:bY) (k1:DK) (hS:Sl w b (dC a1 k1)) (h1:At w a1 k1) (b1:a1.next.length<9223372036854775807):
  bs Tryz.prog 9 [.slice b 1 1] w fun v N=>v=.bool (l9 a1)∧N=[]:=by
 have h9:=Rs w b 1 [⟨a1,k1.nb,k1.fb,k1.nc,k1.fc,bO k1.qs⟩] hS (fun r hr=>by rw[List.mem_singleton.1 hr];exact h1) (show 1<_ by decide) (fun r hr=>by rw[List.mem_singleton.1 hr];exact b1)
 rw[show([(⟨a1,k1.nb,k1.fb,k1.nc,k1.fc,bO k1.qs⟩:ub)].any fun r=>l9 r.d)=l9 a1 by simp]at h9
 exact h9
theorem QP (w:World) [cG Tryz.prog w] [cG Tryz.prog w] (d:bY) (j k:DK) (h1:At w d j) (h2:At w d k) (hb:d.next.length<9223372036854775807) (jy: ∀r∈d.next,r.length<9223372036854775807) (j6:d.aA.length<9223372036854775807):bs Tryz.prog 16 [dV d j,dV d k] w fun v N=>v=.bool true∧N=[]:=E5 w d j.nb k.nb j.fb k.fb j.nc k.nc j.fc k.fc (bO j.qs) (bO k.qs) h1 h2 hb jy j6
theorem Mg (w:World) [cG Tryz.prog w] [cG Tryz.prog w] (xb yb:Option Addr) (xc yc:Nat) (xs:List dE) (hX:Sl w xb (aT xs)) (hY:Sl w yb (aT xs)) (hb:xs.length≤64):bs Tryz.prog 15 [.slice xb xs.length xc,.slice yb xs.length yc] w fun v N=>v=.bool true∧N=[]:=
 (yK w xb yb xc yc xs xs hX hY (by omega)).mono fun v N ⟨h1,h2⟩=>⟨h1.trans (congrArg Value.bool (decide_eq_true F)),h2⟩
end Go.Proofs.YtgdbfideeeegmaaGreatDoor

namespace Go.Proofs.YtgdbfideeeegmaaGreatDoor
open Go.Lx Go.RowKit _root_.Go.Proofs.Tryz
theorem OT (w:World) [cG Tryz.prog w] (S:List UInt8) (oQ:S.length≤4096) (v i:Nat) (hv:v≤6) (m:List dE) (hR:sy 96 S 0 [] i S.length m) (qK: ∀x∈m,x.p<256∧x.n<256) (h0:jw (v:Int) m=0):
  bs Tryz.prog 59 [(str S),vN v] w fun v N=> ∃b c,v=.tuple #[.slice b m.length c,vI 0]∧N=[ak b c 72 5 (aT m)]:=by
 refine av func59 F ntmps59 F ?_
 refine ai (TO.qa F (TO.qa F (ae (ax (ai (ah F (ad (ar (bI F F) (decide_eq_false (by omega))) (ah F (ap F F (aF F) (ap F F (ar (fw F F) (decide_eq_false (by omega))) (ad (aZ F F) (ae ?_))))))))))))
 refine aL F (aq (ax (ai (ah F (ad (u6 rO F) (ad (ar (fw F F) (decide_eq_false (by omega))) (ae (aL F (aq (ai (ah F (ad (bE (cs:=[(str S),(vI 0),nS,(vI 0)]) KT OU (by kernel_rfl)) (aj F (cL (cs:=[(str S),(vI 0),nS,(vI 0)]) F F (fun z1=>?_)))))))))))))))
 refine TO.qa F (ae (ax (T.dt 72 5 ?_)))
 refine aH (ah F ?_)
 have lJ:=(bw.under (A:=[oI z1 149 [(str S),vN 0,(.slice none (([]:List dE).length) 0),vI 0],ak none 0 72 5 (aT [])]) (B:=[]) (O:=[ak none 0 72 5 [],oI z1 149 [(str S),(vI 0),nS,(vI 0)]]) (hR w z1 none 0) (by exact Sub.dL [ak none 0 72 5 []] _ (.k .z)))
 refine aj F (aI AM lJ F ?_)
 clear lJ
 rintro vr O' ⟨A9,rfl,lb,lc,rfl,rfl⟩
 refine ae (ax (ai (ah F (ad (aP F) (ad (aJ eN F iU F F) (ad (aO 0 oR F F F F) (ad (ar (bo F F) (decide_eq_true (by decide))) (ah F (ap F F (aF F) (ap F F (aP F) (ap F F (aJ eN F aM F F) (ap F F (aO 0 dh F F F F) (ap F F (aF F) ?_)))))))))))))
 refine ap F F (u6 rO F) (ap F F (ar (bI F F) (decide_eq_false (by omega))) (ad (bt F F) (ae (aL F (aq (ax (ai (ah F (ad (aP F) (ad (aJ eN F iU F F) (ad (aO 0 oR F F F F) (ad (ar (bo F F) (decide_eq_true (by decide))) ?_))))))))))))
 refine ae ?_
 refine bg F ?_
 refine aH (ah F (ah F (ad (aP F) (ad (aJ eN F eT F F) (ad (aO 0 cp F F F F) (ah F ?_))))))
 have SU:=fun(w1:World) (hI:Inv w [oI z1 149 [(str S),vN S.length,(.slice lb m.length lc),vI 0],ak lb lc 72 5 (aT m)] w1)=>(haveI:=dp hI;SN w1 lb lc m (hI.eV (mG 1 F)) qK v h0)
 refine aj F (aI SV (aE SU) F ?_)
 clear SU
 rintro vr O' ⟨N,rfl,rfl,rfl⟩
 refine ad (aP F) (ad (aJ eN F iU F F) (aj F (bj (vs:=[(vI 0)]) 0 iU F F F F ?_)))
 refine ae (ax (ai (ah F (ad (aP F) (ad (aJ eN F iU F F) (ad (aO 0 oR F F F F) (ad (ar (cS F F) (decide_eq_false (by decide))) (ae (aL F (aq (ai (ah F (ad (aP F) (ad (aJ eN F eT F F) (ad (aO 0 cp F F F F) (TO.qa F (TO.qa F ?_)))))))))))))))))
 refine ae (az (ao ?_))
 refine ct (.slice lb m.length lc) (vI 0) Tryz.results59 F F ?_
 exact⟨[ak lb lc 72 5 (aT m)],(by exact Sub.d (.k .z)),_,_,F,F⟩
theorem HE (w:World) [cG Tryz.prog w] (S:List UInt8) (oQ:S.length≤4096) (v i:Nat) (hv:v≤6) (m:List dE) (hR:sy 96 S 0 [] i S.length m) (qK: ∀x∈m,x.p<256∧x.n<256) (h0:jw (v:Int) m=0):
  bs Tryz.prog 32 [(str S),vN v] w fun v N=> ∃b c,v=.slice b m.length c∧N=[ak b c 72 5 (aT m)]:=by
 refine av func32 F ntmps32 F ?_
 refine ai (TO.qa F (ae (ai (ah F (ah F ?_)))))
 have lK:=fun(w1:World) (hI:Inv w [] w1)=>(haveI:=dp hI;OT w1 S oQ v i hv m hR qK h0)
 refine aj F (aI SW (aE lK) F ?_)
 clear lK
 rintro vr O' ⟨N,rfl,b,c,rfl,rfl⟩
 refine ah F (ad (bm (vs:=_) F F) (ad (bm (vs:=_) F F) (TO.qa F (TO.qa F (ae (ai (ah F (TO.qa F (ae (az (ao ?_)))))))))))
 refine aG (.slice b m.length c) Tryz.results32 F ?_
 exact⟨[ak b c 72 5 (aT m)],(by exact Sub.rf),_,_,F,F⟩
end Go.Proofs.YtgdbfideeeegmaaGreatDoor

namespace Go.Proofs.YtgdbfideeeegmaaGreatDoor
open Go.Lx Go.RowKit _root_.Go.Proofs.Tryz
def KU:List UInt8:=[40,40,91,42,93,42,41,46,40,91,97,93,46,91,42,93,41,41]
def J6:List UInt8:=[40,40,62,40,91,42,93,46,91,98,93,41,41,46,40,91,42,93,42,41,41]
def WR:List UInt8:=[91,42,93]
def w4:List dE:=[⟨3,0,0,0,0⟩,⟨8,0,0,0,0⟩,⟨3,1,0,0,0⟩,⟨3,0,0,0,0⟩,⟨4,0,0,2,3⟩,⟨4,0,0,1,4⟩]
def rU:List dE:=[⟨3,0,0,0,0⟩,⟨3,2,0,0,0⟩,⟨4,0,0,0,1⟩,⟨9,0,0,2,0⟩,⟨3,0,0,0,0⟩,⟨8,0,0,4,0⟩,⟨4,0,0,3,5⟩]
def D3:List dE:=[⟨3,0,0,0,0⟩]
theorem AN {S:List UInt8} (oQ:S.length≤4096) {ia:Nat} {l:List dE} (hl:l.length≤1000) (h1:Ch S ia 91) (h2:Ch S (ia+1) 42) (h3:Ch S (ia+1+1) 93):sy 96 S ia l l.length (ia+3) (l++[(⟨3,0,0,0,0⟩:dE)]):=
 MZ oQ hl h1 fun base _ rb lb n lc=>SD base rb S oQ (ia+1) n lc lb h2 h3
theorem M3 {S:List UInt8} (oQ:S.length≤4096) {ia k:Nat} {l:List dE} (hk:k<6) (hl:l.length≤1000) (h1:Ch S ia 91) (h2:Ch S (ia+1) (97+k)) (h3:Ch S (ia+1+1) 93):sy 96 S ia l l.length (ia+3) (l++[(⟨3,0|||1*2^k,0,0,0⟩:dE)]):=
 MZ oQ hl h1 fun base _ rb lb n lc=>SE base rb S oQ (ia+1) k n lc lb hk h2 h3
theorem rd1:sy 96 KU 0 [] 5 18 w4:=by
 have hS:KU.length≤4096:=by decide
 have a:sy 96 KU 2 [] 0 5 (w4.take 1):=AN hS (by decide) F F F
 have b:sy 96 KU 1 [] 1 7 (w4.take 2):=vE hS F (Hu (ia:=2) (c0:=91) hS (by decide) F (.inr F) a F F)
 have c:sy 96 KU 9 (w4.take 2) 2 12 (w4.take 3):=M3 hS (k:=0) (by decide) (by decide) F F F
 have d:sy 96 KU 13 (w4.take 3) 3 16 (w4.take 4):=AN hS (by decide) F F F
 have f:sy 96 KU 8 (w4.take 2) 4 17 (w4.take 5):=vE hS F (DU (ia:=9) (c0:=91) hS (by decide) F (.inr F) c F d F)
 exact vE hS F (DU (ia:=1) (c0:=40) hS (by decide) F (.inl F) b F f F)
theorem rd2:sy 96 J6 0 [] 6 21 rU:=by
 have hS:J6.length≤4096:=by decide
 have a:sy 96 J6 4 [] 0 7 (rU.take 1):=AN hS (by decide) F F F
 have b:sy 96 J6 8 (rU.take 1) 1 11 (rU.take 2):=M3 hS (k:=1) (by decide) (by decide) F F F
 have c:sy 96 J6 3 [] 2 12 (rU.take 3):=vE hS F (DU (ia:=4) (c0:=91) hS (by decide) F (.inr F) a F b F)
 have d:sy 96 J6 1 [] 3 13 (rU.take 4):=vE hS F (KP (ia:=2) hS (by decide) F c F)
 have f:sy 96 J6 15 (rU.take 4) 4 18 (rU.take 5):=AN hS (by decide) F F F
 have g:sy 96 J6 14 (rU.take 4) 5 20 (rU.take 6):=vE hS F (Hu (ia:=15) (c0:=91) hS (by decide) F (.inr F) f F F)
 exact vE hS F (DU (ia:=1) (c0:=40) hS (by decide) F (.inl F) d F g F)
theorem rd3:sy 96 WR 0 [] 0 3 D3:=AN (by decide) (by decide) F F F
theorem SX:jw (1:Nat) w4=0:=by kernel_rfl
theorem SY:jw (2:Nat) rU=0:=by kernel_rfl
theorem WS:jw (0:Nat) D3=0:=by kernel_rfl
section
variable (w:World) [cG Tryz.prog w]
theorem SZ:bs Tryz.prog 32 [(str KU),.int .i64 ((1:Nat):Int)] w (fun v N=> ∃b c,v=.slice b w4.length c∧N=[ak b c 72 5 (aT w4)]):=HE w KU (by decide) 1 5 (by decide) w4 rd1 (by decide) SX
theorem S0:bs Tryz.prog 32 [(str J6),.int .i64 ((2:Nat):Int)] w (fun v N=> ∃b c,v=.slice b rU.length c∧N=[ak b c 72 5 (aT rU)]):=HE w J6 (by decide) 2 6 (by decide) rU rd2 (by decide) SY
theorem S1:bs Tryz.prog 32 [(str WR),.int .i64 ((0:Nat):Int)] w (fun v N=> ∃b c,v=.slice b D3.length c∧N=[ak b c 72 5 (aT D3)]):=HE w WR (by decide) 0 0 (by decide) D3 rd3 (by decide) WS
end
end Go.Proofs.YtgdbfideeeegmaaGreatDoor

namespace Go.Lx
open Go.RowKit
section
variable (ls:List Lf)
variable {ls}
end
end Go.Lx

namespace Go.Lx
open Go.RowKit
end Go.Lx

namespace Go.Lx
open Go.RowKit
section
variable {v B:Nat} {LS:List Lf} {w:List Nat}
end
end Go.Lx

namespace Go.Lx
open Go.RowKit Go.Proofs.YtgdbfideeeegmaaGreatDoor
theorem L7 {α:Type} [Nonempty α] {G:α→Prop} {kf:α→Key} {nx:α→Nat→α} {fn:α→Bool} {L:Nat} (h:LY G kf nx fn L) {s:α} (Q:List α) (hG: ∀q∈Q,G q) (h0:s∈Q) (hc: ∀q∈Q,∀x,x<L→nx q x∈Q) {B:Nat} (hB:Q.length≤B):CT (zI G kf nx) L (kf s) B:=by
 refine⟨Q.map kf,⟨List.mem_map.2 ⟨s,h0,F⟩,fun k hk x hx=>?_⟩,by simpa using hB⟩
 obtain⟨q,hq,rfl⟩:=List.mem_map.1 hk
 rw[sT h (hG q hq) hx]
 exact List.mem_map.2 ⟨_,hc q hq x hx,F⟩
section
variable {ls:List Lf}
structure VQ (ls:List Lf):Prop where
 len:ls.length=2
 o0:(lf ls 0).op=9
 f0:(lf ls 0).fo=[1]
 l0:(lf ls 0).la=false
 o1:(lf ls 1).op=0
 f1:(lf ls 1).fo=[]
 l1:(lf ls 1).la=true
def Ki (ls:List Lf) (bh:List Nat) (q:Nat) (o:List Ob):St:=⟨bh,⟨1,q,o⟩::(if dK (lf ls 1).d q=true then[⟨-1,0,o⟩]else[])⟩
theorem ET (c:Cf) (f:Bool) (o:List Ob) (h:c.k≠ -1):((c::(if f=true then[(⟨-1,0,o⟩:Cf)]else[])).foldl add [])=c::(if f=true then[⟨-1,0,o⟩]else[]):=by
 cases f with
 |false=>rfl
 |true=>
  show add (add [] c) ⟨-1,0,o⟩=_
  have e:add [] c=[c]:=by unfold add;rw[if_neg (by simp)];rfl
  rw[e];unfold add
  rw[if_neg (by rw[List.mem_singleton];intro e2;exact h (by rw[←e2]))]
  rfl
theorem BN (h:VQ ls) (f:Nat) (bh:List Nat) (o:List Ob):fQ ls (f+1) bh 1 o=[⟨-1,0,o⟩]:=by
 unfold fQ;rw[h.f1,h.l1];rfl
theorem Js (h:VQ ls):j4 ls [0]=Ki ls (ls.map fun l=>l.d.start.toNat) (lf ls 1).d.start.toNat (sd ls [] (0,(lf ls 0).d.start.toNat)):=by
 have e:ft ls (2*ls.length) (ls.map fun l=>l.d.start.toNat) 0 []=⟨1,(lf ls 1).d.start.toNat,sd ls [] (0,(lf ls 0).d.start.toNat)⟩::(if dK (lf ls 1).d (lf ls 1).d.start.toNat=true then[⟨-1,0,sd ls [] (0,(lf ls 0).d.start.toNat)⟩]else[]):=by
  rw[h.len]
  show ft ls (3+1) _ 0 []=_
  unfold ft
  rw[if_pos h.o0]
  show fQ ls (2+1) _ 0 _=_
  unfold fQ
  rw[h.f0,h.l0]
  show(ft ls (1+1) _ 1 _++[])++[]=_
  rw[List.append_nil,List.append_nil]
  unfold ft
  rw[if_neg (by rw[h.o1];decide),if_neg (by rw[h.o1];decide),BN h 0]
  rfl
 unfold j4 Ki
 rw[show([0]:List Nat).flatMap (fun k=>ft ls (2*ls.length) (ls.map fun l=>l.d.start.toNat) k [])=ft ls (2*ls.length) (ls.map fun l=>l.d.start.toNat) 0 [] by simp,e,ET _ _ _ (by show(1:Int)≠ -1;decide)]
theorem L8 (h:VQ ls) (bh:List Nat) (q:Nat) (o:List Ob) (x:Nat):lL ls (Ki ls bh q o) x=Ki ls [0,0] (dJ (lf ls 1).d q x) (lT ls o x):=by
 have eb:kY ls bh x=[0,0]:=by
  unfold kY
  rw[h.len,show List.range 2=[0,1]from F]
  simp only[List.map_cons,List.map_nil,h.o0,h.o1]
  rfl
 have e1:iN ls [0,0] x ⟨1,q,o⟩=⟨1,dJ (lf ls 1).d q x,lT ls o x⟩::(if dK (lf ls 1).d (dJ (lf ls 1).d q x)=true then[⟨-1,0,lT ls o x⟩]else[]):=by
  unfold iN
  rw[if_neg (by show¬(1:Int)<0;decide)]
  have e2:fQ ls (2*ls.length) [0,0] 1 (lT ls o x)=[⟨-1,0,lT ls o x⟩]:=by rw[h.len];exact BN h 3 _ _
  show _::(if _ then fQ ls (2*ls.length) [0,0] 1 (lT ls o x)else[])=_
  rw[e2];rfl
 have e3:((Ki ls bh q o).cf.flatMap (iN ls [0,0] x))=iN ls [0,0] x ⟨1,q,o⟩:=by
  unfold Ki
  rw[List.flatMap_cons]
  have:(if dK (lf ls 1).d q=true then[(⟨-1,0,o⟩:Cf)]else[]).flatMap (iN ls [0,0] x)=[]:=by
   split
   ·show iN ls [0,0] x ⟨-1,0,o⟩++[]=[]
    unfold iN;rw[if_pos (by show(-1:Int)<0;decide)];rfl
   ·rfl
  rw[this,List.append_nil]
 unfold lL
 rw[show(Ki ls bh q o).bh=bh from F,eb,e3,e1]
 unfold Ki
 rw[ET _ _ _ (by show(1:Int)≠ -1;decide)]
theorem OY {vs:Nat} (hG:gU ls vs) (h:VQ ls) {B:Nat} (hB:2*((lf ls 1).d.next.length*((lf ls 0).d.next.length+1))≤B):CT (zI (jL ls) St.key (lL ls)) (2^vs) (j4 ls [0]).key B:=by
 obtain⟨b0,An⟩: ∃b,b=ls.map fun l=>l.d.start.toNat:=⟨_,F⟩
 have k0:0<ls.length:=by rw[h.len];decide
 have k1:1<ls.length:=by rw[h.len];decide
 obtain⟨os,F8⟩: ∃os:List (List Ob),os=[]::(List.range (lf ls 0).d.next.length).map fun q=>[(0,q)]:=⟨_,F⟩
 have QK: ∀o,o∈os↔o=[]∨ ∃q,q<(lf ls 0).d.next.length∧o=[(0,q)]:=fun o=>by
  rw[F8,List.mem_cons,List.mem_map]
  exact or_congr Iff.rfl ⟨fun⟨q,h1,h2⟩=>⟨q,List.mem_range.1 h1,h2.symm⟩,fun⟨q,h1,h2⟩=>⟨q,List.mem_range.2 h1,h2.symm⟩⟩
 have UY: ∀q,q<(lf ls 0).d.next.length→sd ls [] (0,q)∈os:=fun q hq=>by
  rw[QK];unfold sd;split
  ·exact .inl F
  ·exact .inr ⟨q,hq,F⟩
 have P_: ∀o∈os,eE ls 1 o:=fun o ho=>by
  rcases(QK o).1 ho with rfl|⟨q,hq,rfl⟩
  ·exact .nil
  ·exact⟨List.pairwise_singleton _ _,fun p hp=>by rw[List.mem_singleton.1 hp];exact⟨Nat.zero_lt_one,hq⟩⟩
 have Em: ∀o∈os,∀x,x<2^vs→lT ls o x∈os:=fun o ho x hx=>by
  rcases(QK o).1 ho with rfl|⟨q,hq,rfl⟩
  ·exact(QK _).2 (.inl F)
  ·exact UY _ ((hG.iZ k0).toVal.fB hq (by rw[hG.vars _ (jj k0)];exact hx)).1
 obtain⟨Q,hQ⟩: ∃Q:List St,Q=[b0,[0,0]].flatMap fun b=>(List.range (lf ls 1).d.next.length).flatMap fun q=>os.map fun o=>Ki ls b q o:=⟨_,F⟩
 have hm: ∀s,s∈Q↔ ∃b q o,(b=b0∨b=[0,0])∧q<(lf ls 1).d.next.length∧o∈os∧s=Ki ls b q o:=fun s=>by
  rw[hQ]
  simp only[List.mem_flatMap,List.mem_map,List.mem_range,List.mem_cons,List.not_mem_nil,or_false]
  constructor
  ·rintro⟨b,hb,q,hq,o,ho,rfl⟩;exact⟨b,q,o,hb,hq,ho,F⟩
  ·rintro⟨b,q,o,hb,hq,ho,rfl⟩;exact⟨b,hb,q,hq,o,ho,F⟩
 have s0:=dH (hG.iZ k0).toVal
 have s1:=dH (hG.iZ k1).toVal
 have n0:=(hG.iZ k0).n0
 have n1:=(hG.iZ k1).n0
 refine L7 (Et hG) Q (fun s hs=>?_) ?_ (fun s hs x hx=>?_) ?_
 ·obtain⟨b,q,o,hb,hq,ho,rfl⟩:=(hm s).1 hs
  refine⟨?_,?_,fun c hc=>?_⟩
  ·rcases hb with rfl|rfl
   ·rw[An];exact pg hG
   ·refine⟨by rw[h.len];rfl,fun k hk=>?_⟩
    rw[h.len]at hk
    rcases(show k=0∨k=1 by omega)with rfl|rfl
    ·exact n0
    ·exact n1
  ·show(_::_:List Cf).Nodup
   split
   ·rw[List.nodup_cons]
    exact⟨by rw[List.mem_singleton];intro e;have:=congrArg Cf.k e;simp at this,by simp⟩
   ·simp
  ·rcases List.mem_cons.1 hc with rfl|hc
   ·exact .inr ⟨1,F,k1,hq,P_ o ho⟩
   ·split at hc
    ·rw[List.mem_singleton.1 hc];exact .inl ⟨F,F,(P_ o ho).mono (by omega)⟩
    ·simp at hc
 ·rw[Js h,hm]
  exact⟨_,_,_,.inl An.symm,s1,UY _ s0,F⟩
 ·obtain⟨b,q,o,hb,hq,ho,rfl⟩:=(hm s).1 hs
  rw[L8 h,hm]
  exact⟨_,_,_,.inr F,((hG.iZ k1).toVal.fB hq (by rw[hG.vars _ (jj k1)];exact hx)).1,Em o ho x hx,F⟩
 ·have:Q.length=2*((lf ls 1).d.next.length*((lf ls 0).d.next.length+1)):=by
   rw[hQ]
   have hl:os.length=(lf ls 0).d.next.length+1:=by rw[F8];simp
   simp only[List.flatMap_cons,List.flatMap_nil,List.append_nil,List.length_append,List.length_flatMap,List.length_map,hl]
   rw[show(fun _:Nat=>(lf ls 0).d.next.length+1)=Function.const Nat ((lf ls 0).d.next.length+1)from F,List.map_const,List.sum_replicate_nat,List.length_range]
   omega
  omega
end
end Go.Lx

namespace Go.Lx
open Go.RowKit Go.Proofs.YtgdbfideeeegmaaGreatDoor
def iO:bY:=⟨1,0,[[0,1],[2,3],[0,1],[2,3]],[false,false,true,true]⟩
def M4:bY:=⟨0,0,[[1],[2],[2]],[false,true,false]⟩
theorem FD:Valid iO:=dr.1 (by decide)
theorem FE:Valid M4:=dr.1 (by decide)
theorem KV:fY M4=M4:=by kernel_rfl
theorem KW:sN M4=D3:=by kernel_rfl
theorem KX:w0 M4=0:=by kernel_rfl
theorem KY:fY iO=iO:=by kernel_rfl
theorem S3:w5 w4=.kQ (.star (.letter 0 0)) (.kQ (.letter 1 0) (.letter 0 0)):=by kernel_rfl
theorem KZ:w5 rU=.kQ (.ahead (.kQ (.letter 0 0) (.letter 2 0))) (.star (.letter 0 0)):=by kernel_rfl
theorem Vw {v:Nat} (hv:v≤6) (p n:Nat) {B:Nat} (hB:3≤B):mx v (.letter p n) B:=Nat.le_trans (uA (gM p n) hv (Nat.le_refl 1)).rn.len hB
theorem un {v:Nat} (hv:v≤6) (p n:Nat):fm (v:Int) 3 (minOf v (jz (.letter p n))) (jz (.letter p n)):=gl hv (by decide) (t:=.letter p n) F (Vw hv p n (Nat.le_refl 3))
theorem WT {v:Nat} (hv:v≤6):mx v (.star (.letter 0 0)) 4096:=
 ⟨Vw hv 0 0 (by decide),HF (un hv 0 0).valid (Nat.le_trans (Nat.pow_le_pow_right (by decide) (Nat.succ_le_succ (un hv 0 0).len)) (by decide))⟩
theorem YD {v:Nat} (hv:v≤6) (p n q m:Nat):mx v (.kQ (.letter p n) (.letter q m)) 4096:=
 ⟨Vw hv p n (by decide),Vw hv q m (by decide),uB (un hv p n).valid (un hv q m).valid (Nat.le_trans (Nat.mul_le_mul (un hv p n).len (Nat.pow_le_pow_right (by decide) (un hv q m).len)) (by decide))⟩
theorem S4 {v:Nat} (hv:v≤6) (p n q m:Nat):fm (v:Int) 24 (minOf v (jz (.kQ (.letter p n) (.letter q m)))) (jz (.kQ (.letter p n) (.letter q m))):=
 uC hv (by decide) (un hv p n).toHasL (un hv q m).toHasL (uB (un hv p n).valid (un hv q m).valid (Nat.mul_le_mul (un hv p n).len (Nat.pow_le_pow_right (by decide) (un hv q m).len)))
theorem AO (u:List Nat):rV (jz (.letter 0 0)) u=true:=by
 rw[xR]
 induction u with
 |nil=>exact .nil
 |cons x u ih=>
  refine jH.sw (x:=[x]) ?_ ih
  show([x].length==1&& [x].all (gM 0 0))=true
  simp[gM]
theorem K0 {p n:Nat} {y:List Nat} (h:jz (.letter p n) y=true): ∃x,y=[x]∧gM p n x=true:=by
 have h:(y.length==1&&y.all (gM p n))=true:=h
 rw[Bool.and_eq_true,beq_iff_eq]at h
 obtain⟨x,rfl⟩:=List.length_eq_one_iff.1 h.1
 exact⟨x,F,by simpa using h.2⟩
theorem M5 {v:Nat} (hv:v≤6):HasL (v:Int) 1 (fZ (v:Int) true) (jz (.star (.letter 0 0))):=
 ⟨(iL hv).valid,(iL hv).len,F,fun w hw=>by rw[(iL hv).h_ w hw];exact(AO w).symm⟩
theorem HG {p n q m:Nat} {w:List Nat}:jz (.kQ (.letter p n) (.letter q m)) w=true↔ ∃a b,w=[a,b]∧gM p n a=true∧gM q m b=true:=by
 constructor
 ·intro h
  obtain⟨y1,y2,rfl,h3,h4⟩:=kC.1 h
  obtain⟨a,rfl,ha⟩:=K0 h3
  obtain⟨b,rfl,hb⟩:=K0 h4
  exact⟨a,b,F,ha,hb⟩
 ·rintro⟨a,b,rfl,ha,hb⟩
  refine kC.2 ⟨[a],[b],F,?_,?_⟩
  ·show([a].length==1&& [a].all (gM p n))=true
   simp[ha]
  ·show([b].length==1&& [b].all (gM q m))=true
   simp[hb]
theorem sink {E:bY} {L s:Nat} (h: ∀x,x<L→dJ E s x=s): ∀(u:List Nat),(∀x∈u,x<L)→runN E s u=s
 | [],_=>rfl
 |x::u,hu=>by
  show runN E (dJ E s x) u=s
  rw[h x (hu x (by simp))]
  exact sink h u fun y hy=>hu y (by simp[hy])
def OV:bY:=⟨1,0,[[1,2],[1,1],[3,3],[1,1]],[false,false,false,true]⟩
theorem K1:HasL (1:Nat) 4 OV (jz (.kQ (.letter 1 0) (.letter 0 0))):=by
 refine⟨dr.1 (by decide),by decide,F,fun w hw=>?_⟩
 have hs:=sink (E:=OV) (L:=2) (s:=1) (by decide)
 rw[Bool.eq_iff_iff,HG]
 match w,hw with
 | [],_=>exact⟨fun h=>absurd h (by decide),fun⟨a,b,h,_⟩=>by cases h⟩
 | [a],hw=>
  have: ∀a,a<2→h_ OV [a]=false:=by decide
  exact⟨fun h=>absurd h (by rw[this a (hw a (by simp))];decide),fun⟨a,b,h,_⟩=>by cases h⟩
 | [a,b],hw=>
  have: ∀a,a<2→ ∀b,b<2→h_ OV [a,b]=gM 1 0 a:=by decide
  rw[this a (hw a (by simp)) b (hw b (by simp))]
  exact⟨fun h=>⟨a,b,F,h,by simp[gM]⟩,fun⟨a',b',h,h2,_⟩=>by cases h;exact h2⟩
 |a::b::c::u,hw=>
  have: ∀a,a<2→ ∀b,b<2→ ∀c,c<2→runN OV 0 [a,b,c]=1:=by decide
  refine⟨fun h=>?_,fun⟨a,b,h,_⟩=>by cases h⟩
  have h:dK OV (runN OV 0 ([a,b,c]++u))=true:=h
  rw[jl,this a (hw a (by simp)) b (hw b (by simp)) c (hw c (by simp)),hs u fun x hx=>hw x (by simp[hx])]at h
  exact absurd h (by decide)
theorem WU:J7 1 w4 4096:=by
 unfold J7;rw[if_neg (by decide),S3]
 have h1:=gl (v:=1) (by decide) (Nat.le_refl 4096) (t:=.star (.letter 0 0)) F (WT (by decide))
 have h2:=S4 (v:=1) (by decide) 1 0 0 0
 exact⟨WT (by decide),YD (by decide) 1 0 0 0,uB h1.valid h2.valid (Nat.le_trans (Nat.mul_le_mul (h1.M6 (M5 (by decide))) (Nat.pow_le_pow_right (by decide) (h2.M6 K1))) (by decide))⟩
def K2:bY:=⟨2,0,[[1,1,1,1],[2,2,3,3],[2,2,2,2],[3,3,3,3]],[false,false,false,true]⟩
theorem K3:fm (2:Nat) 4 K2 (nI (jz (.kQ (.letter 0 0) (.letter 2 0))) fun _=>true):=by
 refine⟨⟨dr.1 (by decide),by decide,F,fun w hw=>?_⟩,by kernel_rfl⟩
 have s2:=sink (E:=K2) (L:=4) (s:=2) (by decide)
 have s3:=sink (E:=K2) (L:=4) (s:=3) (by decide)
 rw[Bool.eq_iff_iff,kC]
 have rB: ∀x y:List Nat,w=x++y→jz (.kQ (.letter 0 0) (.letter 2 0)) x=true→ ∃a b,w=a::b::y∧gM 2 0 b=true:=fun x y h h2=>by
  obtain⟨a,b,rfl,_,hb⟩:=HG.1 h2
  exact⟨a,b,h,hb⟩
 match w,hw,rB with
 | [],_,rB=>exact⟨fun h=>absurd h (by decide),fun⟨x,y,h,h2,_⟩=>by obtain⟨a,b,h3,_⟩:=rB x y h h2;cases h3⟩
 | [a],hw,rB=>
  have: ∀a,a<4→h_ K2 [a]=false:=by decide
  exact⟨fun h=>absurd h (by rw[this a (hw a (by simp))];decide),fun⟨x,y,h,h2,_⟩=>by obtain⟨a,b,h3,_⟩:=rB x y h h2;cases h3⟩
 |a::b::u,hw,rB=>
  have hu: ∀x∈u,x<4:=fun x hx=>hw x (by simp[hx])
  have e:h_ K2 (a::b::u)=gM 2 0 b:=by
   have: ∀a,a<4→ ∀b,b<4→runN K2 0 [a,b]=if gM 2 0 b=true then 3 else 2:=by decide
   show dK K2 (runN K2 0 ([a,b]++u))=_
   rw[jl,this a (hw a (by simp)) b (hw b (by simp))]
   split
   ·rename_i h;rw[s3 u hu,h];rfl
   ·rename_i h;rw[s2 u hu,Bool.eq_false_iff.2 h];rfl
  rw[e]
  exact⟨fun h=>⟨[a,b],u,F,HG.2 ⟨a,b,F,by simp[gM],h⟩,F⟩,fun⟨x,y,h,h2,_⟩=>by obtain⟨a',b',h3,h4⟩:=rB x y h h2;cases h3;exact h4⟩
def WV:bY:=⟨2,0,[[0,0,0,0]],[true]⟩
theorem K4:fm (2:Nat) 4 WV (jz (.star (.letter 0 0))):=by
 have h:=M5 (v:=2) (by decide)
 rw[show fZ ((2:Nat):Int) true=WV by kernel_rfl]at h
 exact⟨h.le (by decide),by kernel_rfl⟩
def J8:List Lf:=[⟨9,K2,[1],false⟩,⟨0,WV,[],true⟩]
theorem FF:mO 2 (w5 rU)=J8∧HH 2 (w5 rU)=[0]:=by
 rw[KZ]
 have e1:mO 2 (.kQ (.ahead (.kQ (.letter 0 0) (.letter 2 0))) (.star (.letter 0 0)))=[⟨9,minOf 2 (nI (jz (.kQ (.letter 0 0) (.letter 2 0))) fun _=>true),[1],false⟩,⟨0,minOf 2 (jz (.star (.letter 0 0))),[],true⟩]:=rfl
 rw[e1,←jI K3 (by decide),←jI K4 (by decide)]
 exact⟨F,F⟩
theorem S5:okB 2 (w5 rU) 4096:=by
 rw[KZ]
 have h2:=S4 (v:=2) (by decide) 0 0 2 0
 have hs:=iL (v:=2) (by decide)
 exact⟨⟨YD (by decide) 0 0 2 0,uB h2.valid hs.valid (Nat.le_trans (Nat.mul_le_mul h2.len (Nat.pow_le_pow_right (by decide) hs.len)) (by decide))⟩,WT (by decide)⟩
theorem OW:gU J8 2:=by
 have h:=HI (v:=2) (by decide) (Nat.le_refl 4096) (t:=w5 rU) (by rw[KZ];rfl) (by rw[KZ];decide) S5
 rw[FF.1]at h;exact h
theorem WW:J7 2 rU 4096:=by
 unfold J7;rw[if_pos (by decide)]
 refine⟨S5,?_⟩
 unfold OX
 rw[FF.1,FF.2]
 exact OY OW ⟨F,F,F,F,F,F,F⟩ (by decide)
theorem S6:p7 (mO 2 (w5 rU)) 19:=by rw[FF.1];exact K5 (by decide)
theorem S7: ∀r,r<4→ ∀a,a<2→ ∀b,b<2→dJ iO (dJ iO r a) b=2*a+b:=by decide
theorem S8: ∀a,a<2→ ∀b,b<2→dK iO (2*a+b)=gM 1 0 a:=by decide
theorem CI: ∀(u:List Nat) (r:Nat),r<4→qn (1:Nat) u→runN iO r u<4
 | [],r,h,_=>h
 |x::u,r,h,hw=>by
  have hx:x<2:=hw x (by simp)
  have: ∀r,r<4→ ∀a,a<2→dJ iO r a<4:=by decide
  exact CI u (dJ iO r x) (this r h x hx) fun y hy=>hw y (by simp[hy])
theorem K6 (w:List Nat) (hw:qn (1:Nat) w):h_ iO w=jz (w5 w4) w:=by
 rw[S3,Bool.eq_iff_iff]
 constructor
 ·intro h
  rcases List.eq_nil_or_concat w with rfl|⟨x,b,rfl⟩
  ·exact absurd h (by decide)
  ·rcases List.eq_nil_or_concat x with rfl|⟨x,a,rfl⟩
   ·have hb:b<2:=hw b (by simp)
    have: ∀b,b<2→h_ iO [b]=false:=by decide
    have h:h_ iO [b]=true:=h
    rw[this b hb]at h;cases h
   ·rw[List.concat_eq_append,List.concat_eq_append]at*
    have ha:a<2:=hw a (by simp)
    have hb:b<2:=hw b (by simp)
    have hx:runN iO 0 x<4:=CI x 0 (by decide) fun y hy=>hw y (by simp[hy])
    have h:dK iO (runN iO 0 (x++[a]++[b]))=true:=h
    rw[jl,jl]at h
    have h:dK iO (dJ iO (dJ iO (runN iO 0 x) a) b)=true:=h
    rw[S7 _ hx a ha b hb,S8 a ha b hb]at h
    refine kC.2 ⟨x,[a]++[b],by simp,AO x,kC.2 ⟨[a],[b],F,?_,?_⟩⟩
    ·show([a].length==1&& [a].all (gM 1 0))=true
     simp[h]
    ·show([b].length==1&& [b].all (gM 0 0))=true
     simp[gM]
 ·intro h
  obtain⟨x,y,rfl,_,h2⟩:=kC.1 h
  obtain⟨y1,y2,rfl,h3,h4⟩:=kC.1 h2
  obtain⟨a,rfl,ha⟩:=K0 h3
  obtain⟨b,rfl,_⟩:=K0 h4
  have Sq:a<2:=hw a (by simp)
  have Fp:b<2:=hw b (by simp)
  have hx:runN iO 0 x<4:=CI x 0 (by decide) fun y hy=>hw y (by simp[hy])
  show dK iO (runN iO 0 (x++([a]++[b])))=true
  rw[jl,jl]
  show dK iO (dJ iO (dJ iO (runN iO 0 x) a) b)=true
  rw[S7 _ hx a Sq b Fp,S8 a Sq b Fp,ha]
theorem HJ:fm (1:Nat) 4096 iO (qh 1 w4):=by
 unfold qh;rw[if_neg (by decide)]
 exact⟨⟨FD,by decide,F,K6⟩,KY⟩
theorem S9 {M:bY} (h:fm (1:Nat) 4096 M (qh 1 w4)):M=iO:=fm.ext h HJ fun _ _=>rfl
theorem OZ {M:bY} (h:fm (2:Nat) 4096 M (qh 2 rU)) {u:List Nat} (hu: ∀x∈u,x<4) (hl:u.length≤64):kp M u=0∧E_ M u=qL (u.foldl (lL J8) (j4 J8 [0])):=by
 have hw:qn (2:Nat) u:=hu
 have h0:kp M u=0:=sP.2 ⟨h.valid,hl,h.toHasL.wd.2 hw⟩
 refine⟨h0,?_⟩
 rw[E9 h0,h.h_ u hw]
 unfold qh Vx;rw[if_pos (by decide),FF.1,FF.2]
theorem O0:qL ([0,3,0].foldl (lL J8) (j4 J8 [0]))=true:=by decide+kernel
theorem O4:qL ([3,1,2].foldl (lL J8) (j4 J8 [0]))=false:=by decide+kernel
end Go.Lx

namespace Go.Proofs.YtgdbfideeeegmaaGreatDoor
open Go.Lx Go.RowKit _root_.Go.Proofs.Tryz
theorem S_ {w:World} {d:bY} {k:DK} (h1:Sl w k.nb (bO k.qs)) (h2:nums k.qs=d.next) (h3: ∀r∈k.qs,Sl w r.b (ints r.xs)) (h4:Sl w k.fb (aU d.aA)):At w d k:=by
 refine⟨h1,?_,h4⟩
 rw[←h2]
 refine⟨by unfold bO nums;rw[List.length_map,List.length_map],fun i r hr=>?_⟩
 unfold nums at hr
 rw[List.getElem?_map]at hr
 obtain⟨q,hq,rfl⟩:=Option.map_eq_some_iff.1 hr
 exact⟨q.b,q.c,by unfold bO;rw[List.getElem?_map,hq];rfl,h3 q (List.mem_of_getElem? hq)⟩
theorem K7 (w:World) [cG Tryz.prog w] [cG Tryz.prog w] (b:Option Addr) (c:Nat) (h:Sl w b (aT w4)):bs Tryz.prog 19 [.slice b w4.length c,vI 1,vI 4096] w fun v N=> ∃k,v=.tuple #[dV iO k,vI 0]∧N=[dI 56 4 3 iO k]:=by
 refine(M7 (M8 w b c w4 h (by decide) (by decide) 1 4096 (fun h=>absurd h (by decide)) (K:=0) (by decide) (fun _=>rW (by decide)) (fun _ h=>absurd h (by decide)))).mono fun v N=>?_
 rintro⟨D,k,er,rfl,rfl,⟨h1,_⟩|⟨_,h1,_⟩|⟨_,_,⟨rfl,hM,_⟩|⟨_,_,h1⟩⟩⟩
 ·exact absurd SX h1
 ·exact absurd ⟨by decide,by decide⟩ h1
 ·have e:=S9 hM
  subst e
  exact⟨k,F,F⟩
 ·exact absurd WU h1
theorem K8 (w:World) [cG Tryz.prog w] [cG Tryz.prog w] (b:Option Addr) (c:Nat) (h:Sl w b (aT rU)):bs Tryz.prog 19 [.slice b rU.length c,vI 2,vI 4096] w fun v N=> ∃M k,v=.tuple #[dV M k,vI 0]∧N=[dI 56 4 3 M k]∧fm (2:Nat) 4096 M (qh 2 rU):=by
 refine(M7 (M8 w b c rU h (by decide) (by decide) 2 4096 (fun _=>by decide) (K:=19) (by decide) (fun _=>rW (by decide)) (fun _ _ _=>S6))).mono fun v N=>?_
 rintro⟨D,k,er,rfl,rfl,⟨h1,_⟩|⟨_,h1,_⟩|⟨_,_,⟨rfl,hM,_⟩|⟨_,_,h1⟩⟩⟩
 ·exact absurd SY h1
 ·exact absurd ⟨by decide,by decide⟩ h1
 ·exact⟨D,k,F,F,hM⟩
 ·exact absurd WW h1
theorem M9 (w:World) [cG Tryz.prog w] [cG Tryz.prog w] {M:bY} (hM:fm (2:Nat) 4096 M (qh 2 rU)) (k:DK) (h:At w M k) (wb:Option Addr) (wc:Nat) (l:List Nat) (hW:Sl w wb (yy l)) (h4: ∀x∈l,x<4) (hl:l.length=3) (x:Bool) (hx:qL (l.foldl (lL J8) (j4 J8 [0]))=x):bs Tryz.prog 29 [dV M k,.slice wb 3 wc] w fun v N=>v=.tuple #[.bool x,vI 0]∧N=[]:=by
 obtain⟨h1,h2⟩:=OZ hM h4 (by omega)
 have hb:=Ck hM.toHasL
 have h9:=HK w M k.nb k.fb k.nc k.fc (bO k.qs) h hb.1 hb.2.1 hb.2.2 wb wc l hW (by omega) (fun x h=>by have:=h4 x h;omega)
 rw[h1,h2,hx,hl]at h9
 exact h9
theorem eqS (w:World) [cG Tryz.prog w] [cG Tryz.prog w] (j k:DK) (h1:At w iO j) (h2:At w iO k):bs Tryz.prog 16 [dV iO j,dV iO k] w fun v N=>v=.bool true∧N=[]:=
 (rk (zL w iO iO j.nb k.nb j.fb k.fb j.nc k.nc j.fc k.fc (bO j.qs) (bO k.qs) h1 h2 (by decide) (by decide) (by decide))).mono fun v N ⟨h1,O2,h2,_⟩=>⟨h2.trans (congrArg Value.bool (decide_eq_true F)),h1⟩
theorem Ta (w:World) [cG Tryz.prog w] [cG Tryz.prog w] (k:DK) (h:At w M4 k):bs Tryz.prog 14 [dV M4 k] w fun v N=> ∃b c,v=.tuple #[.slice b D3.length c,vI 0]∧N=[ak b c 72 5 (aT D3)]:=by
 have h9:=MT w M4 k h FE (by decide) KV
 rw[KW,KX]at h9
 exact h9
theorem CJ (w:World) [cG Tryz.prog w]:bs Tryz.prog 11 [] w fun v N=>v=.bool true∧N=[]:=by
 refine av func11 F ntmps11 F ?_
 refine ai (TO.qa F (ae (ai (aj F (aI HL (aW SZ) F ?_)))))
 rintro vr O' ⟨N,rfl,b1,c1,rfl,rfl⟩
 refine aj F (aI M_ (aE fun w1 hI=>(haveI:=dp hI;K7 w1 b1 c1 (hI.eV (mG 0 F)))) F ?_)
 rintro vr O' ⟨N,rfl,k1,rfl,rfl⟩
 refine ah F (ad (bm (vs:=_) F F) (ad (bm (vs:=_) F F) (aj F (aR aX F (fun z1=>?_)))))
 refine aj F (bj (vs:=(dC iO k1)) 0 aX F F F F ?_)
 refine TO.qa F ?_
 refine bM (O':=[oI z1 25 (dC iO k1),dI 56 4 3 iO k1]) (by exact Sub.k (.k .z)) ?_
 refine ae (ai (aj F (bH (m:=2) (parts:=[(0,.const (vI 0)),(1,.const (vI 1))]) (cs:=[vI 0,vI 1]) bT aM (by decide) (by kernel_rfl) F (fun z2=>?_))))
 refine aj F (bH (m:=2) (parts:=[(0,.const (vI 2)),(1,.const (vI 3))]) (cs:=[vI 2,vI 3]) bT aM (by decide) (by kernel_rfl) F (fun z3=>?_))
 refine aj F (bH (m:=2) (parts:=[(0,.const (vI 0)),(1,.const (vI 1))]) (cs:=[vI 0,vI 1]) bT aM (by decide) (by kernel_rfl) F (fun z4=>?_))
 refine aj F (bH (m:=2) (parts:=[(0,.const (vI 2)),(1,.const (vI 3))]) (cs:=[vI 2,vI 3]) bT aM (by decide) (by kernel_rfl) F (fun z5=>?_))
 refine aj F (bH (m:=4) (parts:=[(0,.tmp 17),(1,.tmp 18),(2,.tmp 19),(3,.tmp 20)]) (cs:=[(.slice (aD z2) 2 2),(.slice (aD z3) 2 2),(.slice (aD z4) 2 2),(.slice (aD z5) 2 2)]) dB bP (by decide) (by kernel_rfl) F (fun z6=>?_))
 refine aj F (bH (m:=4) (parts:=[(0,.const (.bool false)),(1,.const (.bool false)),(2,.const (.bool true)),(3,.const (.bool true))]) (cs:=[.bool false,.bool false,.bool true,.bool true]) dF dc (by decide) (by kernel_rfl) F (fun z7=>?_))
 refine ad (bE (cs:=[vI 1,(vI 0),(.slice (aD z6) 4 4),(.slice (aD z7) 4 4)]) gK aX (by kernel_rfl)) (aj F (aR aX F (fun z8=>?_)))
 refine aj F (bj (vs:=[vI 1,(vI 0),(.slice (aD z6) 4 4),(.slice (aD z7) 4 4)]) 0 aX F F F F ?_)
 refine ae ?_
 refine cu (O':=[ak (aD z6) 4 56 1 [(.slice (aD z2) 2 2),(.slice (aD z3) 2 2),(.slice (aD z4) 2 2),(.slice (aD z5) 2 2)],ak (aD z7) 4 4 1 [.bool false,.bool false,.bool true,.bool true],ak (aD z2) 2 3 1 [vI 0,vI 1],ak (aD z3) 2 3 1 [vI 2,vI 3],ak (aD z4) 2 3 1 [vI 0,vI 1],ak (aD z5) 2 3 1 [vI 2,vI 3],oI z8 25 [vI 1,(vI 0),(.slice (aD z6) 4 4),(.slice (aD z7) 4 4)],oI z1 25 (dC iO k1),dI 56 4 3 iO k1]) (by exact Sub.dL [oI z8 25 [vI 1,(vI 0),(.slice (aD z6) 4 4),(.slice (aD z7) 4 4)],ak (aD z7) 4 4 1 [.bool false,.bool false,.bool true,.bool true]] _ (.dL [oI z8 25 [vI 1,(vI 0),(.slice (aD z6) 4 4),(.slice (aD z7) 4 4)]] _ (.dL [oI z8 25 [vI 1,(vI 0),(.slice (aD z6) 4 4),(.slice (aD z7) 4 4)],ak (aD z5) 2 3 1 [vI 2,vI 3],ak (aD z4) 2 3 1 [vI 0,vI 1],ak (aD z3) 2 3 1 [vI 2,vI 3]] _ (.dL [oI z8 25 [vI 1,(vI 0),(.slice (aD z6) 4 4),(.slice (aD z7) 4 4)],ak (aD z5) 2 3 1 [vI 2,vI 3],ak (aD z4) 2 3 1 [vI 0,vI 1]] _ (.dL [oI z8 25 [vI 1,(vI 0),(.slice (aD z6) 4 4),(.slice (aD z7) 4 4)],ak (aD z5) 2 3 1 [vI 2,vI 3]] _ (.dL [oI z8 25 [vI 1,(vI 0),(.slice (aD z6) 4 4),(.slice (aD z7) 4 4)]] _ (.k (.k (.k .z))))))))) ?_
 obtain⟨k3,rX⟩: ∃k:DK,k=⟨some ⟨z6,0,none⟩,4,some ⟨z7,0,none⟩,4,[⟨some ⟨z2,0,none⟩,2,[0,1]⟩,⟨some ⟨z3,0,none⟩,2,[2,3]⟩,⟨some ⟨z4,0,none⟩,2,[0,1]⟩,⟨some ⟨z5,0,none⟩,2,[2,3]⟩]⟩:=⟨_,F⟩
 refine cu (O':=(([ak k3.nb k3.nc 56 1 (bO k3.qs),ak k3.fb k3.fc 4 1 (aU iO.aA)]++bl 3 k3.qs)++[oI z8 25 [vI 1,(vI 0),(.slice (aD z6) 4 4),(.slice (aD z7) 4 4)],oI z1 25 (dC iO k1),dI 56 4 3 iO k1])) (by subst rX;exact Sub.rf) ?_
 refine oE (φ:=nums k3.qs=iO.next) (by subst rX;rfl) ?_
 refine cu (O':=[dI 56 4 3 iO k3,oI z8 25 (dC iO k3),oI z1 25 (dC iO k1),dI 56 4 3 iO k1]) (by subst rX;exact Sub.rf) ?_
 refine ai (aj F (aI HL (aW S0) F ?_))
 rintro vr O' ⟨N,rfl,b2,c2,rfl,rfl⟩
 refine aj F (aI M_ (aE fun w1 hI=>(haveI:=dp hI;K8 w1 b2 c2 (hI.eV (mG 0 F)))) F ?_)
 rintro vr O' ⟨N,rfl,M,k2,rfl,rfl,hM⟩
 refine ah F (ad (bm (vs:=_) F F) (ad (bm (vs:=_) F F) (aj F (aR aX F (fun z9=>?_)))))
 refine aj F (bj (vs:=(dC M k2)) 0 aX F F F F ?_)
 refine TO.qa F ?_
 refine bM (O':=[oI z9 25 (dC M k2),oI z8 25 (dC iO k3),oI z1 25 (dC iO k1),dI 56 4 3 M k2,dI 56 4 3 iO k3,dI 56 4 3 iO k1]) (by exact Sub.k (.dL [dI 56 4 3 M k2,ak b2 c2 72 5 (aT rU),dI 56 4 3 iO k3] _ (.dL [dI 56 4 3 M k2,ak b2 c2 72 5 (aT rU),dI 56 4 3 iO k3] _ (.k (.d (.k (.k .z))))))) ?_
 refine ae (ai (ad (cN 0 cy F aX F F F) (aj F (bH (m:=3) (parts:=[(0,.const (.int .u8 0)),(1,.const (.int .u8 3)),(2,.const (.int .u8 0))]) (cs:=[.int .u8 0,.int .u8 3,.int .u8 0]) lM cP (by decide) (by kernel_rfl) F (fun uk=>?_)))))
 refine aj F (aI Na (aE fun w1 hI=>(haveI:=dp hI;M9 w1 hM k2 (hI.at (mG 4 F)) (aD uk) 3 [0,3,0] (hI.eV (cs:=yy [0,3,0]) (mG 0 F)) (by decide) F _ O0)) F ?_)
 rintro vr O' ⟨N,rfl,rfl,rfl⟩
 refine ah F (ad (bm (vs:=_) F F) (ad (bm (vs:=_) F F) (TO.qa F (TO.qa F ?_))))
 refine bM (O':=[oI z9 25 (dC M k2),oI z8 25 (dC iO k3),oI z1 25 (dC iO k1),dI 56 4 3 M k2,dI 56 4 3 iO k3,dI 56 4 3 iO k1]) (by exact Sub.d (.k (.k (.k (.k (.k (.k .z))))))) ?_
 refine ae (ai (ad (cN 0 cy F aX F F F) (aj F (bH (m:=3) (parts:=[(0,.const (.int .u8 3)),(1,.const (.int .u8 1)),(2,.const (.int .u8 2))]) (cs:=[.int .u8 3,.int .u8 1,.int .u8 2]) lM cP (by decide) (by kernel_rfl) F (fun mM=>?_)))))
 refine aj F (aI Na (aE fun w1 hI=>(haveI:=dp hI;M9 w1 hM k2 (hI.at (mG 4 F)) (aD mM) 3 [3,1,2] (hI.eV (cs:=yy [3,1,2]) (mG 0 F)) (by decide) F _ O4)) F ?_)
 rintro vr O' ⟨N,rfl,rfl,rfl⟩
 refine ah F (ad (bm (vs:=_) F F) (ad (bm (vs:=_) F F) (TO.qa F (TO.qa F ?_))))
 refine bM (O':=[oI z9 25 (dC M k2),oI z8 25 (dC iO k3),oI z1 25 (dC iO k1),dI 56 4 3 M k2,dI 56 4 3 iO k3,dI 56 4 3 iO k1]) (by exact Sub.d (.k (.k (.k (.k (.k (.k .z))))))) ?_
 refine ae (ai (aj F (bN (v:=vI 1) bT aM F F F (fun z12=>?_))))
 refine aj F (bN (v:=vI 2) bT aM F F F (fun sM=>?_))
 refine aj F (bN (v:=vI 2) bT aM F F F (fun uy=>?_))
 refine aj F (bH (m:=3) (parts:=[(0,.tmp 42),(1,.tmp 43),(2,.tmp 44)]) (cs:=[(.slice (aD z12) 1 1),(.slice (aD sM) 1 1),(.slice (aD uy) 1 1)]) dB bP (by decide) (by kernel_rfl) F (fun vL=>?_))
 refine aj F (bH (m:=3) (parts:=[(0,.const (.bool false)),(1,.const (.bool true)),(2,.const (.bool false))]) (cs:=[.bool false,.bool true,.bool false]) dF dc (by decide) (by kernel_rfl) F (fun Rh=>?_))
 refine ad (bE (cs:=[(vI 0),(vI 0),(.slice (aD vL) 3 3),(.slice (aD Rh) 3 3)]) gK aX (by kernel_rfl)) (aj F (aI Nb (aE fun w1 hI=>(haveI:=dp hI;Ta w1 ⟨some ⟨vL,0,none⟩,3,some ⟨Rh,0,none⟩,3,[⟨some ⟨z12,0,none⟩,1,[1]⟩,⟨some ⟨sM,0,none⟩,1,[2]⟩,⟨some ⟨uy,0,none⟩,1,[2]⟩]⟩ (S_ (hI.eV (mG 1 F)) F (List.forall_mem_cons.2 ⟨hI.eV (cs:=ints [1]) (mG 4 F),List.forall_mem_cons.2 ⟨hI.eV (cs:=ints [2]) (mG 3 F),List.forall_mem_cons.2 ⟨hI.eV (cs:=ints [2]) (mG 2 F),fun _ h=>by cases h⟩⟩⟩) (hI.eV (mG 0 rfl))))) rfl ?_))
 rintro vr O' ⟨N,rfl,b4,c4,rfl,rfl⟩
 refine ah F (ad (bm (vs:=_) F F) (ad (bm (vs:=_) F F) (TO.qa F (TO.qa F ?_))))
 refine bM (O':=[oI z9 25 (dC M k2),oI z8 25 (dC iO k3),oI z1 25 (dC iO k1),ak b4 c4 72 5 (aT D3),dI 56 4 3 M k2,dI 56 4 3 iO k3,dI 56 4 3 iO k1]) (by exact Sub.dL [ak b4 c4 72 5 (aT D3),ak (aD Rh) 3 4 1 [.bool false,.bool true,.bool false],ak (aD vL) 3 56 1 [(.slice (aD z12) 1 1),(.slice (aD sM) 1 1),(.slice (aD uy) 1 1)],ak (aD uy) 1 3 1 [vI 2],ak (aD sM) 1 3 1 [vI 2],ak (aD z12) 1 3 1 [vI 1]] _ (.dL [ak b4 c4 72 5 (aT D3),ak (aD Rh) 3 4 1 [.bool false,.bool true,.bool false],ak (aD vL) 3 56 1 [(.slice (aD z12) 1 1),(.slice (aD sM) 1 1),(.slice (aD uy) 1 1)],ak (aD uy) 1 3 1 [vI 2],ak (aD sM) 1 3 1 [vI 2],ak (aD z12) 1 3 1 [vI 1]] _ (.dL [ak b4 c4 72 5 (aT D3),ak (aD Rh) 3 4 1 [.bool false,.bool true,.bool false],ak (aD vL) 3 56 1 [(.slice (aD z12) 1 1),(.slice (aD sM) 1 1),(.slice (aD uy) 1 1)],ak (aD uy) 1 3 1 [vI 2],ak (aD sM) 1 3 1 [vI 2],ak (aD z12) 1 3 1 [vI 1]] _ (.k (.d (.d (.d (.d (.d (.k (.k (.k .z)))))))))))) ?_
 refine ae (ai (ah F (ad (ar (bo F F) (decide_eq_true (by first|rfl|decide))) (ah F (ap F F (cN 2 cy F aX F F F) (ap F F (cN 1 cy F aX F F F) ?_))))))
 refine fL F F F (aI Nc (aE fun w1 hI=>(haveI:=dp hI;eqS w1 k1 k3 (hI.at (mG 6 F)) (hI.at (mG 5 F)))) F ?_)
 rintro vr O' ⟨N,rfl,rfl,rfl⟩
 refine ad (bt F F) (ah F (ap F F (aF F) (ap F F (ar (bo F F) (decide_eq_true (by first|rfl|decide))) (ad (bt F F) (ah F (ap F F (aF F) (ad (bt F F) (ah F (ap F F (aF F) (ap F F (ar (bo F F) (decide_eq_true (by first|rfl|decide))) ?_))))))))))
 refine ad (bt F F) (ah F (ap F F (aF F) (ap F F (f_ F) (ad (bt F F) (ah F (ap F F (aF F) (ap F F (ar (bo F F) (decide_eq_true (by first|rfl|decide))) (ad (bt F F) (ah F (ap F F (aF F) ?_))))))))))
 refine ap F F (ar (bo F F) (decide_eq_true (by first|rfl|decide))) (ad (bt F F) (ah F (ap F F (aF F) ?_)))
 refine fL F F F (aI HL (aW S1) F ?_)
 rintro vr O' ⟨N,rfl,b3,c3,rfl,rfl⟩
 refine fL F F F (aI HM (aE fun w1 hI=>(haveI:=dp hI;(show bs _ _ _ _ _ from by
   have h9:=yK w1 b4 b3 c4 c3 D3 D3 (hI.eV (mG 4 F)) (hI.eV (mG 0 F)) (by decide)
   rw[decide_eq_true F]at h9
   exact h9))) F ?_)
 rintro vr O' ⟨N,rfl,rfl,rfl⟩
 refine ad (bt F F) (TO.qa F (ae (az (ao ?_))))
 refine aG (.bool true) Tryz.results11 F ?_
 exact⟨[],Sub.z,F,F⟩
end Go.Proofs.YtgdbfideeeegmaaGreatDoor

namespace Go.Proofs.YtgdbfideeeegmaaGreatDoor
open Go.Lx Go.RowKit _root_.Go.Proofs.Tryz
theorem Ry (w:World) [cG Tryz.prog w] (a:bY) (k:DK) (ha:At w a k) (U7:a.next.length<9223372036854775807) (Mh: ∀r∈a.next,r.length<9223372036854775807) (Mi:a.aA.length<9223372036854775807):
  bs Tryz.prog 3 [dV a k] w fun r N=>r=.bool true∧N=[]:=by
 refine av func3 F ntmps3 F ?_
 refine ai (aj F (cL (cs:=(dC a k)) F F (fun z1=>?_)))
 refine TO.qa F (ae ?_)
 refine fg (fun ρ O=>Sub [oI z1 25 (dC a k)] O∧(¬l9 a=true∧(a.next.length≤4∨ ¬bW a=0))∧bZ [(0,(dV a k)),(1,(.pointer (aD z1)))] ρ) ?_ ?_
 ·refine ax ?_
  refine aH (ad (cN 0 cy F aX F F F) (aj F (bH (m:=1) (parts:=[(0,_)]) (cs:=(dC a k)) E6 aX (by decide) (by kernel_rfl) F (fun z2=>?_))))
  refine aj F (aI Xq (aE fun w1 hI=>(haveI:=dp hI;QO w1 (aD z2) a k (hI.eV (mG 0 F)) (hI.oH ha) U7)) F ?_)
  rintro vr O' ⟨N,rfl,rfl,rfl⟩
  by_cases Im:(l9 a)=true
  ·refine ad (ar (aF F) (Im)) ?_
   refine ay F F (ay F F (ay F F (ay F F (ay F F (ay F F (ay F F (ay F F ?_)))))))
   refine ay F F (ad (bt F F) (ae ?_))
   refine bg F ?_
   refine ai (aj F (aI I0 (aW CJ) F ?_))
   rintro vr O' ⟨N,rfl,rfl,rfl⟩
   refine TO.qa F (ae (az (ao ?_)))
   refine aG (.bool true) Tryz.results3 F ?_
   exact⟨[],Sub.z,F,F⟩
  refine ad (ar (aF F) (Bool.eq_false_iff.2 Im)) (ap F F (aJ cy F cU F F) (ap F F (aO 1 dB F F F F) (ap F F (bL dB F) (ap F F (fw F F) ?_))))
  by_cases U8:(a.next.length:Int)>4
  ·refine ap F F (ar (aF F) (decide_eq_true U8)) ?_
   refine ap F F (cN 1 cy F aX F F F) ?_
   refine fL F F F (aI Ew (aE fun w1 hI=>(haveI:=dp hI;rp w1 a k.nb k.fb k.nc k.fc (bO k.qs) (hI.u4 ha) U7 Mh Mi)) F ?_)
   rintro vr O' ⟨N,rfl,rfl,rfl⟩
   refine ap F F (bo F F) (ap F F (bt F F) (ad (aZ F F) (ae (aw F (fun hc=>?_) (fun hc=>?_)))))
   ·have qf:bW a=0:=by omega
    refine ai (aj F (aI I0 (aW CJ) F ?_))
    rintro vr O' ⟨N,rfl,rfl,rfl⟩
    refine TO.qa F (ae (az (ao ?_)))
    refine aG (.bool true) Tryz.results3 F ?_
    exact⟨[],Sub.z,F,F⟩
   have vp: ¬bW a=0:=by omega
   refine aq ?_
   exact⟨(by exact Sub.d (.k .z)),⟨by simp_all,by omega⟩,⟨F,F,trivial⟩⟩
  refine ap F F (ar (aF F) (decide_eq_false U8)) (ay F F (ay F F (ay F F (ap F F (aZ F F) (ad (aZ F F) (ae (aL F ?_)))))))
  refine aq ?_
  exact⟨(by exact Sub.d (.k .z)),⟨by simp_all,by omega⟩,⟨F,F,trivial⟩⟩
 rintro ρ O ⟨hS,⟨DE,MU⟩,hH⟩
 obtain⟨eP,rfl⟩:=hH.elim
 clear hH
 refine cu hS ?_
 refine ax ?_
 obtain⟨s1,s2,s3⟩:=Ar DE
 have H0:=QN a
 refine aH (ad (cN 0 cy F aX F F F) (aj F (aI UD (aE fun w1 hI=>(haveI:=dp hI;U6 w1 a k (hI.oH ha) (by omega) (fun r hr=>by have:=s3 r hr;omega) (by omega))) F ?_)))
 rintro vr O' ⟨N,rfl,k1,rfl,rfl⟩
 refine aj F (aR aX F (fun z3=>?_))
 refine aj F (bj (vs:=(dC a k1)) 0 aX F F F F ?_)
 refine ae (ai (ad (cN 2 cy F aX F F F) (aj F (aI UE (aE fun w1 hI=>(haveI:=dp hI;U5 w1 a k (hI.oH ha) U7 Mh Mi)) F ?_))))
 rintro vr O' ⟨N,rfl,b4,c4,rfl,rfl⟩
 refine ah F (ad (bm (vs:=_) F F) (ad (bm (vs:=_) F F) (TO.qa F (TO.qa F (ae ?_)))))
 let dS:List Lx.Item:=[ak b4 c4 72 5 (aT (tV a)),oI z3 25 (dC a k1),dI 56 4 3 a k1,oI z1 25 (dC a k)]
 refine Fy dS [(0,(dV a k)),(1,(.pointer (aD z1))),(3,(.pointer (aD z3))),(4,(.slice b4 ((tV a).length) c4)),(5,vN (tE a))] F (.of F) (fun eP=>?_)
 refine ax (ai (TO.qa F (ae (aC ?_))))
 refine cE (fun(r:Nat) ρ O=>O=dS∧r≤2∧bZ [(0,(dV a k)),(1,(.pointer (aD z1))),(3,(.pointer (aD z3))),(4,(.slice b4 ((tV a).length) c4)),(5,vN (tE a)),(6,vN r)] ρ) (fun r=>2-r) 0 ?_ ?_
 ·exact⟨F,Nat.zero_le _,(.of F)⟩
 rintro r ρ O ⟨rfl,hr,hH⟩
 obtain⟨eP,rfl⟩:=hH.elim
 clear hH
 refine ax (ai (ah F (ad (bI F F) (ae (aw F (fun hc=>?_) (fun hc=>?_))))))
 ·have NC:r<2:=by omega
  refine aq (ax (aC (ai (ad (cN 1 cy F aX F F F) (aj F (aI Nb (aE fun w1 hI=>(haveI:=dp hI;XJ w1 a k1 (hI.at (mG 2 F)) U7 Mh Mi)) F ?_))))))
  rintro vr O' ⟨N,rfl,b7,c7,rfl,rfl⟩
  refine ah F (ad (bm (vs:=_) F F) (ad (bm (vs:=_) F F) (TO.qa F (TO.qa F (ae (ax (ai (ah F (ah F (ad (ar (cS F F) (decide_eq_false (fun h=>h F))) (ah F (ap F F (aF F) (ap F F (aF F) ?_)))))))))))))
  refine fL F F F (aI HM (aE fun w1 hI=>(haveI:=dp hI;Mg w1 b7 b4 c7 c4 (tV a) (hI.eV (mG 0 F)) (hI.eV (mG 1 F)) H0)) F ?_)
  rintro vr O' ⟨N,rfl,rfl,rfl⟩
  refine ap F F (f_ F) (ad (aZ F F) (ah F (ap F F (cN 2 cy F aX F F F) (ap F F (cN 4 cy F aX F F F) ?_))))
  refine fL F F F (aI Nc (aE fun w1 hI=>(haveI:=dp hI;QP w1 a k1 k (hI.at (mG 3 F)) (hI.oH ha) U7 Mh Mi)) F ?_)
  rintro vr O' ⟨N,rfl,rfl,rfl⟩
  refine ap F F (f_ F) (ad (aZ F F) (ae (aL F (aq (aH (ah F (aj F (aI UF (jX [0] (UB w b7 c7 (tV a) (by omega))) F ?_))))))))
  rintro vr O' ⟨A1,rfl,rfl,e9,rfl⟩
  refine ae (aH (ah F (ad (cj (a:=r) (b:=1) F F (by omega)) (TO.qa F (ae ?_)))))
  exact⟨r+1,by omega,dS,(by exact Sub.d (.k (.k (.k (.k .z))))),F,by omega,(.of F)⟩
 have Uc: ¬r<2:=by omega
 refine bn ?_
 refine ai (aj F (aI I0 (aW CJ) F ?_))
 rintro vr O' ⟨N,rfl,rfl,rfl⟩
 refine TO.qa F (ae (az (ao ?_)))
 refine aG (.bool true) Tryz.results3 F ?_
 exact⟨[],Sub.z,F,F⟩
end Go.Proofs.YtgdbfideeeegmaaGreatDoor


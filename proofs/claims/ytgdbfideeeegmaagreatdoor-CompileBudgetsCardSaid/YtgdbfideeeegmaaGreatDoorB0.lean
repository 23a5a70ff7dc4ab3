/- Contracts of functions of the program, and what they answer. Conditions: those each theorem names. -/
import Derived.Test.YtgdbfideeeegmaaGreatDoorA2
import Derived.Test.YtgdbfideeeegmaaGreatDoorA5
import Derived.Test.YtgdbfideeeegmaaGreatDoorA9
import Derived.Lib.RowBridge
import Derived.Test.YtgdbfideeeegmaaGreatDoorProg
import Derived.Test.YtgdbfideeeegmaaGreatDoorA6
import Derived.Test.YtgdbfideeeegmaaGreatDoorA8
import Derived.Test.YtgdbfideeeegmaaGreatDoorA7
set_option linter.unusedSectionVars false
set_option linter.unusedSimpArgs false
set_option linter.unusedVariables false
set_option linter.unnecessarySimpa false
set_option maxHeartbeats 8000000
set_option maxRecDepth 20000
namespace Go.Proofs.YtgdbfideeeegmaaGreatDoor
open Go.Lx Go.RowKit _root_.Go.Proofs.Tryz
theorem CP {ls:List Lf} {vs:Nat} (hG:gN ls vs) {x:Nat} (hx:x<2^vs) {m:Nat} {o:List Ob} (hm:m≤ls.length) (h:eB ls m o) {j:Nat} (hj:j<o.length):eB ls o[j].1 (lq ls (o.take j) x):=by
 have h1:=h.2 _ (List.getElem_mem hj)
 refine sB hG hx (by omega) (m:=0) .nil (h.1.sublist (List.take_sublist j o)) (fun p hp=>?_) (Nat.zero_le _)
 obtain⟨i,hi,rfl⟩:=List.mem_iff_getElem.1 hp
 rw[List.length_take]at hi
 rw[List.getElem_take]
 exact⟨Nat.zero_le _,(List.pairwise_iff_getElem.1 h.1) i j (by omega) hj (by omega),(h.2 _ (List.getElem_mem _)).2⟩
theorem CQ {ls:List Lf} {x:Nat} {o:List Ob} {j:Nat} (hj:j<o.length):lq ls (o.take (j+1)) x=rv ls (lq ls (o.take j) x) (o[j].1,dY (lf ls o[j].1).d o[j].2 x):=by
 unfold lq;rw[List.take_succ_eq_append_getElem hj,List.foldl_append];rfl
theorem Qg (w:World) [cG Tryz.prog w] (ob:Nat) (lb:Option Addr) (lc:Nat) (cv fv:Value) (ls:List Lf) (ks:List LK) (ho:jv w ob lb lc cv fv ls ks) (vs:Nat) (hG:gN ls vs) {K:Nat} (hK:oC ls K) (vw:K<1099511627776) (x:Nat) (hx:x<2^vs) (eT:vs≤6) (b0:List Nat) (sb:Option Addr) (sc:Nat) (Y4:Sl w sb (aX b0)) (Fo:nG ls b0) (l0:List CR) (tb:Option Addr) (tc:Nat) (Y5:Sl w tb (cr l0)) (hg: ∀y∈l0,gW ls y.cf) (jO:(l0.map CR.cf).Nodup) (AW: ∀y∈l0,Sl w y.r.b (eh y.r.o)):
  bI Tryz.prog 77 [(cW (aD ob) 0),.agg #[.slice sb b0.length sc,.slice tb l0.length tc],v8 x] w fun v N=> ∃bb bc kv cb cc l p,v=.agg #[.slice bb (ky ls b0 x).length bc,.slice cb l.length cc]∧N=[am bb kv 3 1 (aX (ky ls b0 x)),am cb cc 169 3 (cr l)]++eI 173 p∧l.map CR.cf=((l0.map CR.cf).flatMap (iv ls (ky ls b0 x) x)).foldl add []∧jC ls l p:=by
 refine aw func77 F ntmps77 F ?_
 have gv:=hG.len
 obtain⟨nb,Ab⟩: ∃l:List Nat,l=ky ls b0 x:=⟨_,F⟩
 have W0:=vz hG Fo hx
 rw[←Ab]at W0
 have Ka:nb.length=ls.length:=W0.len
 have Qh:=Fo.len
 have Fk:l0.length≤K:=by
  have:=hK (l0.map CR.cf) jO fun c hc=>by obtain⟨y,hy,rfl⟩:=List.mem_map.1 hc;exact hg y hy
  simpa using this
 have Y6:x<256:=Nat.lt_of_lt_of_le hx (Nat.pow_le_pow_right (by decide) (show vs≤8 by omega))
 refine ai (ak F (cH (cs:=[(.slice sb b0.length sc),(.slice tb l0.length tc)]) F F (fun z1=>?_)))
 refine ak F (aR eZ F (fun z2=>?_))
 refine ae (ai (ad (aN ie F bV F F) (ad (aQ 1 bK F F F F) (ad (bS bK F) (ak F (bX (m:=b0.length) bK aO F F (by omega) (by omega) (fun z3=>?_)))))))
 refine ad (bG (cs:=[(.slice (aD z3) b0.length b0.length),nS]) Ea eZ (by kernel_rfl)) (ak F (aR eZ F (fun z4=>?_)))
 refine ak F (a8 (vs:=[(.slice (aD z3) b0.length b0.length),nS]) 0 eZ F F F F ?_)
 refine ae (aB (ai (ah F (ad (aK F) (ad (br e8 F fe F F (ay ho.bx) (by first|omega|(simp;done)|(simp;omega)|(simp_all;done)|(simp_all;omega))) (ad (cd d_ F F (ay ho.bx) F) (ad (bS d_ F) (ah F (ae (aG ?_))))))))))
 refine cM (fun(k:Nat) ρ O=>O=[oI z4 122 [(.slice (aD z3) b0.length b0.length),nS],am (aD z3) b0.length 3 1 (aX (ry nb k)),oI z2 122 [nS,nS],oI z1 122 [(.slice sb b0.length sc),(.slice tb l0.length tc)]]∧k≤ls.length∧cw [(0,(cW (aD ob) 0)),(1,(.agg #[(.slice sb b0.length sc),(.slice tb l0.length tc)])),(2,v8 x),(4,(.pointer (aD z1))),(6,(.pointer (aD z2))),(7,(.pointer (aD z4))),(25,(.slice lb ls.length lc)),(26,vI (ls.length:Int)),(27,vN k)] ρ) (fun k=>ls.length-k) 0 ?_ ?_
 ·exact⟨by rw[AY,Ka,←Qh,show aX (List.replicate b0.length 0)=List.replicate b0.length (vI 0) by simp];rfl,Nat.zero_le _,(.of F)⟩
 rintro k ρ O ⟨rfl,hk,hH⟩
 obtain⟨fE,rfl⟩:=hH.elim
 clear hH
 refine ai (ad (bT F F) (ae (aB (aC F (fun hc=>?_) (fun hc=>?_)))))
 ·have oU:k<ls.length:=by omega
  refine av (aB (aG (ai (ah F (ad (cY (i:=k) d_ dN F F (ay ho.rw) oU (by rw[cU ho.kl];omega)) (ad (dy (vs:=[v8 ((lf ls k).op),vI (lf ls k).d.vars,vN ((lf ls k).d.start.toNat),(.slice (lk ks k).k.nb ((lf ls k).d.next.length) ((lk ks k).k.nc)),(.slice (lk ks k).k.fb ((lf ls k).d.ax.length) ((lk ks k).k.fc)),(.slice (lk ks k).b ((lf ls k).fo.length) ((lk ks k).c)),.bool (lf ls k).la]) fX F dN F F (Nat.succ_pos _) (ay ho.rw) (my ho.kl oU (hG.iI oU).s0)) (ak F (aR dN F (fun z5=>?_)))))))))
  refine aj F (ak F (a8 (vs:=[v8 ((lf ls k).op),vI (lf ls k).d.vars,vN ((lf ls k).d.start.toNat),(.slice (lk ks k).k.nb ((lf ls k).d.next.length) ((lk ks k).k.nc)),(.slice (lk ks k).k.fb ((lf ls k).d.ax.length) ((lk ks k).k.fc)),(.slice (lk ks k).b ((lf ls k).fo.length) ((lk ks k).c)),.bool (lf ls k).la]) 0 dN F F F F ?_))
  refine ae (ai (ad (aN fX F cI F F) (ad (aQ 0 eu F F F F) (ad (aZ F F) (ae (aC F (fun hc=>?_) (fun hc=>?_)))))))
  ·have Y7:(lf ls k).op=10:=by omega
   have IL:(lf ls k).op=10:=by omega
   have pm:b0.getD k 0<(lf ls k).d.next.length:=Fo.lt k oU
   obtain⟨v1,c1,g1,s1⟩:=(ho.dk _ oU).rows.get pm
   have HX:(lf ls k).d.next[b0.getD k 0].length=da (lf ls k).d:=(hG.iI oU).len _ (List.getElem_mem pm)
   have LX:x<da (lf ls k).d:=by unfold da;rw[hG.vars _ (iU oU)];exact hx
   have TU:x<(lf ls k).d.next[b0.getD k 0].length:=by rw[HX];exact LX
   refine eD [(0,0),(1,0),(2,0),(3,0),(4,0),(5,0),(6,0),(7,0),(8,0),(9,0),(10,0),(11,0),(12,0),(13,0),(14,0),(15,0),(16,0),(17,2)] ?_
   refine ao F (aN ie F bV F F) (ao F (aQ 1 bK F F F F) (ao F (az F) (ao F (aN fX F aY F F) (ao F (aN bW F dM F F) (ao F (aQ 0 du F F F F) (ao F (aN ie F bV F F) (ao F (aQ 4 bK F F F F) (ao F (az F) (ao F (cV (i:=k) bK aO F F (ay Y4) (by omega) (by rw[List.length_map];omega)) (ao F (cd cS F F (ay Y4) (jV (by omega))) (ao F (cV (i:=(b0.getD k 0)) du bV F F (ay (ho.dk _ oU).outer) pm ((ho.dk _ oU).rows.1▸pm)) (ao F (cd bK F F (ay (ho.dk _ oU).outer) g1) (ao F (az F) (ao F (cV (i:=x) bK aO F F (ay s1) TU (by rw[List.length_map];exact TU)) (ao F (cd cS F F (ay s1) (uy (hG.iI oU) pm LX)) (ao F (cV (i:=k) bK aO F F (cP (mG 2 F)) (by first|omega|(rw[pq (by omega)];omega)) (by first|omega|(rw[List.length_map,pq (by omega)];omega))) ?_))))))))))))))))
   refine bq F F (lB (j:=k) (v:=vN (dY (lf ls k).d (b0.getD k 0) x)) (vs:=[(vN (dY (lf ls k).d (b0.getD k 0) x))]) (cs:=aX (ry nb k)) 2 aO F F F F F (by simp) F (by rw[List.length_map,pq (by omega)];simp;omega) ?_)
   refine dL (O':=[oI z5 118 [v8 ((lf ls k).op),vI (lf ls k).d.vars,vN ((lf ls k).d.start.toNat),(.slice (lk ks k).k.nb ((lf ls k).d.next.length) ((lk ks k).k.nc)),(.slice (lk ks k).k.fb ((lf ls k).d.ax.length) ((lk ks k).k.fc)),(.slice (lk ks k).b ((lf ls k).fo.length) ((lk ks k).c)),.bool (lf ls k).la],oI z4 122 [(.slice (aD z3) b0.length b0.length),nS],am (aD z3) b0.length 3 1 (aX (ry nb (k+1))),oI z2 122 [nS,nS],oI z1 122 [(.slice sb b0.length sc),(.slice tb l0.length tc)]]) (by rw[show dK (aX (ry nb k)) k [(vN (dY (lf ls k).d (b0.getD k 0) x))]=aX (ry nb (k+1))from(by rw[←yL (by omega),show nb[k]=dY (lf ls k).d (b0.getD k 0) x by simp only[Ab,ky,List.getElem_map,List.getElem_range];rw[if_pos IL]];simp[dK])];exact bn (List.Sublist.refl _)) ?_
   refine bw ?_
   refine aJ (ad (cx (a:=k) (b:=1) F F (by omega)) (ah F (ae ?_)))
   exact⟨k+1,by omega,[oI z4 122 [(.slice (aD z3) b0.length b0.length),nS],am (aD z3) b0.length 3 1 (aX (ry nb (k+1))),oI z2 122 [nS,nS],oI z1 122 [(.slice sb b0.length sc),(.slice tb l0.length tc)]],(by exact Sub.d (.k (.k (.k (.k .z))))),F,by omega,(.of F)⟩
  have Y8: ¬(lf ls k).op=10:=by omega
  have IL: ¬(lf ls k).op=10:=by omega
  refine av (aJ (ad (cx (a:=k) (b:=1) F F (by omega)) (ah F (ae ?_))))
  have Kg:ry nb (k+1)=ry nb k:=IN (by omega) (by simp only[Ab,ky,List.getElem_map,List.getElem_range];rw[if_neg IL])
  exact⟨k+1,by omega,[oI z4 122 [(.slice (aD z3) b0.length b0.length),nS],am (aD z3) b0.length 3 1 (aX (ry nb k)),oI z2 122 [nS,nS],oI z1 122 [(.slice sb b0.length sc),(.slice tb l0.length tc)]],(by exact Sub.d (.k (.k (.k (.k .z))))),by rw[Kg],by omega,(.of F)⟩
 have Y9: ¬k<ls.length:=by omega
 refine bJ ?_
 refine aB (ai (ad (aN ie F oO F F) (ad (aQ 3 lO F F F F) (ad (bS lO F) (ah F (ae (aG ?_)))))))
 have Sv:k=ls.length:=by omega
 subst Sv
 refine T.dJ 169 3 ?_
 refine ck (O':=[oI z4 122 [(.slice (aD z3) nb.length b0.length),(.slice none (([]:List CR).length) 0)],am none 0 169 3 (cr ([]:List CR)),am (aD z3) b0.length 3 1 (aX nb),oI z2 122 [nS,nS],oI z1 122 [(.slice sb b0.length sc),(.slice tb l0.length tc)]]++eI 173 []) (by
  rw[show ry nb ls.length=nb by rw[←Ka,D_],Ka,←Qh]
  exact(ar [1,0,0,0,0] F)) ?_
 refine cM (fun(i:Nat) ρ O=> ∃(cb:Option Addr) (cc:Nat) (l:List CR) (p:List OB),O=([oI z4 122 [(.slice (aD z3) nb.length b0.length),(.slice cb l.length cc)],am cb cc 169 3 (cr l),am (aD z3) b0.length 3 1 (aX nb),oI z2 122 [nS,nS],oI z1 122 [(.slice sb b0.length sc),(.slice tb l0.length tc)]]++(eI 173 p))∧i≤l0.length∧l.map CR.cf=(((l0.take i).map CR.cf).flatMap (iv ls nb x)).foldl add []∧jC ls l p∧cw [(0,(cW (aD ob) 0)),(1,(.agg #[(.slice sb b0.length sc),(.slice tb l0.length tc)])),(2,v8 x),(4,(.pointer (aD z1))),(6,(.pointer (aD z2))),(7,(.pointer (aD z4))),(54,(.slice tb l0.length tc)),(55,vI (l0.length:Int)),(56,vN i)] ρ) (fun i=>l0.length-i) 0 ?_ ?_
 ·exact⟨none,0,[],[],F,Nat.zero_le _,F,⟨by simp,List.nodup_nil,by simp⟩,(.of F)⟩
 rintro i ρ O ⟨cb,cc,l,p,rfl,hi,hm,hS,hH⟩
 obtain⟨fE,rfl⟩:=hH.elim
 clear hH
 refine ai (ad (bT F F) (ae (aB (aC F (fun hc=>?_) (fun hc=>?_)))))
 ·have xC:i<l0.length:=by omega
  have VD:=hg _ (List.getElem_mem xC)
  have IP:((l0.take (i+1)).map CR.cf).flatMap (iv ls nb x)=((l0.take i).map CR.cf).flatMap (iv ls nb x)++iv ls nb x l0[i].cf:=by rw[List.take_succ_eq_append_getElem xC,List.map_append,List.flatMap_append];simp only[List.map_cons,List.map_nil,List.flatMap_cons,List.flatMap_nil,List.append_nil]
  refine av (aB (aG (ai (ad (cY (i:=i) lO gO F F (ay Y5) xC (by rw[nl];omega)) (ad (dy (vs:=[vI l0[i].k,vN (l0[i].s),(.slice l0[i].r.b l0[i].r.o.length l0[i].r.c)]) jK F gO F F (Nat.succ_pos _) (ay Y5) (qq xC)) (ak F (aR gO F (fun z6=>?_))))))))
  refine ak F (a8 (vs:=[vI l0[i].k,vN (l0[i].s),(.slice l0[i].r.b l0[i].r.o.length l0[i].r.c)]) 0 gO F F F F ?_)
  refine ae (aB (ai (ad (aN jK F aO F F) (ad (aQ 0 cS F F F F) (ad (bT F F) (ae (aC F (fun hc=>?_) (fun hc=>?_))))))))
  ·have TV:l0[i].k<0:=hc
   refine bJ ?_
   refine aJ (ad (cx (a:=i) (b:=1) F F (by omega)) (ah F (ae ?_)))
   have e9:iv ls nb x l0[i].cf=[]:=by unfold iv;rw[if_pos (show l0[i].cf.k<0 from TV)]
   exact⟨i+1,by omega,[oI z4 122 [(.slice (aD z3) nb.length b0.length),(.slice cb l.length cc)],am cb cc 169 3 (cr l),am (aD z3) b0.length 3 1 (aX nb),oI z2 122 [nS,nS],oI z1 122 [(.slice sb b0.length sc),(.slice tb l0.length tc)]]++eI 173 p,(by exact Sub.d (.k (.k (.k (.k (.k .rf)))))),cb,cc,l,p,F,by omega,by rw[IP,e9,List.append_nil];exact hm,hS,(.of F)⟩
  obtain⟨kk,xD,lA,lV,Qi⟩: ∃k:Nat,l0[i].k=(k:Int)∧k<ls.length∧l0[i].s<(lf ls k).d.next.length∧eB ls k l0[i].r.o:=VD.elim (fun h=>absurd h.1 (by show¬l0[i].k= -1;omega)) id
  have PU:l0[i].r.o.length≤12:=by have:=Qi.len;omega
  refine av (ai (aj F (ae (aB (ai (ad (aN jK F yH F F) (ad (aQ 0 gV F F F F) (ad (bS gV F) (ah F (ae (aG ?_)))))))))))
  refine cM (fun(j:Nat) ρ O=> ∃(r3:OB) (p3:List OB),O=([oI z6 169 [vI l0[i].k,vN (l0[i].s),(.slice l0[i].r.b l0[i].r.o.length l0[i].r.c)],oI z4 122 [(.slice (aD z3) nb.length b0.length),(.slice cb l.length cc)],am cb cc 169 3 (cr l),am (aD z3) b0.length 3 1 (aX nb),oI z2 122 [nS,nS],oI z1 122 [(.slice sb b0.length sc),(.slice tb l0.length tc)]]++(eI 173 p3))∧j≤l0[i].r.o.length∧r3.o=lq ls (l0[i].r.o.take j) x∧kn p3 r3∧jC ls l p3∧cw [(0,(cW (aD ob) 0)),(1,(.agg #[(.slice sb b0.length sc),(.slice tb l0.length tc)])),(2,v8 x),(4,(.pointer (aD z1))),(6,(.pointer (aD z2))),(7,(.pointer (aD z4))),(11,(.pointer (aD z6))),(12,(.slice r3.b r3.o.length r3.c)),(54,(.slice tb l0.length tc)),(55,vI (l0.length:Int)),(56,vN i),(64,(.slice l0[i].r.b l0[i].r.o.length l0[i].r.c)),(65,vI (l0[i].r.o.length:Int)),(66,vN j)] ρ) (fun j=>l0[i].r.o.length-j) 0 ?_ ?_
  ·exact⟨⟨none,0,[]⟩,p,F,Nat.zero_le _,F,.inr F,hS,(.of F)⟩
  rintro j ρ O ⟨r3,p3,rfl,hj,Rs,BO,Gt,hH⟩
  obtain⟨fE,rfl⟩:=hH.elim
  clear hH
  refine ai (ad (bT F F) (ae (aB (aC F (fun hc=>?_) (fun hc=>?_)))))
  ·have u9:j<l0[i].r.o.length:=by omega
   have K0:=Qi.2 _ (List.getElem_mem u9)
   have IQ:l0[i].r.o[j].1<ls.length:=by omega
   have G8:l0[i].r.o[j].2<(lf ls l0[i].r.o[j].1).d.next.length:=K0.2
   obtain⟨v2,c2,g2,s2⟩:=(ho.dk _ IQ).rows.get G8
   have VE:(lf ls l0[i].r.o[j].1).d.next[l0[i].r.o[j].2].length=da (lf ls l0[i].r.o[j].1).d:=(hG.iI IQ).len _ (List.getElem_mem G8)
   have K2:x<da (lf ls l0[i].r.o[j].1).d:=by unfold da;rw[hG.vars _ (iU IQ)];exact hx
   have TW:x<(lf ls l0[i].r.o[j].1).d.next[l0[i].r.o[j].2].length:=by rw[VE];exact K2
   have W1:=((hG.iI IQ).toVal.fF G8 K2).1
   refine av (aB (aG (ai (ad (cY (i:=j) gV fx F F (ay (AW _ (List.getElem_mem xC))) u9 (by rw[ii];omega)) (ad (dy (vs:=[vN (l0[i].r.o[j].1),vN (l0[i].r.o[j].2)]) iH F fx F F (Nat.succ_pos _) (ay (AW _ (List.getElem_mem xC))) (ln u9)) (ak F (aR fx F (fun z7=>?_))))))))
   refine ak F (a8 (vs:=[vN (l0[i].r.o[j].1),vN (l0[i].r.o[j].2)]) 0 fx F F F F ?_)
   refine ae ?_
   refine eD [(0,0),(1,0),(2,0),(3,0),(4,0),(5,0),(6,0),(7,0),(8,0),(9,0),(10,0),(11,0),(12,0),(13,0),(14,0),(15,0),(16,0),(17,0),(18,0),(19,0),(20,0),(21,0),(22,2),(23,2)] ?_
   refine ao F (az F) (ao F (az F) (ao F (gT (i:=0) iH aO F F (by decide)) (ao F (aQ 0 cS F F F F) (ao F (az F) (ao F (aK F) (ao F (br e8 F fe F F (ay ho.bx) (by first|omega|(simp;done)|(simp;omega)|(simp_all;done)|(simp_all;omega))) (ao F (cd d_ F F (ay ho.bx) F) (ao F (gT (i:=0) iH aO F F (by decide)) (ao F (aQ 0 cS F F F F) (ao F (cY (i:=l0[i].r.o[j].1) d_ dN F F (ay ho.rw) IQ (by rw[cU ho.kl];omega)) (ao F (br fX F aY F F (ay ho.rw) (by rw[cU ho.kl];omega)) (ao F (br bW F dM F F (ay ho.rw) (by rw[cU ho.kl];show _*7+1<_;omega)) (ao F (cd du F F (ay ho.rw) (oP ho.kl IQ 3 F F)) (ao F (gT (i:=1) iH aO F F (by decide)) (ao F (aQ 0 cS F F F F) (ao F (cV (i:=l0[i].r.o[j].2) du bV F F (ay (ho.dk _ IQ).outer) G8 ((ho.dk _ IQ).rows.1▸G8)) (ao F (cd bK F F (ay (ho.dk _ IQ).outer) g2) (ao F (az F) (ao F (cV (i:=x) bK aO F F (ay s2) TW (by rw[List.length_map];exact TW)) (ao F (cd cS F F (ay s2) (uy (hG.iI IQ) G8 K2)) (ao F (qW (cs:=[vN (l0[i].r.o[j].1),vN (dY (lf ls l0[i].r.o[j].1).d l0[i].r.o[j].2 x)]) iH aO fx (by kernel_rfl)) ?_)))))))))))))))))))))
   have Io:=fun(w1:World) (hI:Inv w ([oI z7 173 [vN (l0[i].r.o[j].1),vN (l0[i].r.o[j].2)],oI z6 169 [vI l0[i].k,vN (l0[i].s),(.slice l0[i].r.b l0[i].r.o.length l0[i].r.c)],oI z4 122 [(.slice (aD z3) nb.length b0.length),(.slice cb l.length cc)],am cb cc 169 3 (cr l),am (aD z3) b0.length 3 1 (aX nb),oI z2 122 [nS,nS],oI z1 122 [(.slice sb b0.length sc),(.slice tb l0.length tc)]]++(eI 173 p3)) w1)=>(haveI:=di hI;TN w1 ob lb lc cv fv ls ks (hI.out ho) vs hG r3 (kn.sl hI (fun it dZ=>List.mem_append_right _ dZ) BO) (l0[i].r.o[j].1,dY (lf ls l0[i].r.o[j].1).d l0[i].r.o[j].2 x) l0[i].r.o[j].1 (by rw[Rs];exact CP hG hx (Nat.le_of_lt lA) Qi u9) (Nat.le_refl _) IQ W1)
   refine bq F F (aP IM (aI Io) F ?_)
   clear Io
   rintro vr O' ⟨N,rfl,pl,r4,rfl,rfl,hr4,W2⟩
   have Vn:kn (pl++p3) r4:=by
    rcases W2 with⟨rfl,rfl⟩|rfl
    ·exact BO.mono fun x hx=>by simpa using hx
    ·exact .inl (by simp)
   refine dL (O':=([oI z7 173 [vN (l0[i].r.o[j].1),vN (l0[i].r.o[j].2)],oI z6 169 [vI l0[i].k,vN (l0[i].s),(.slice l0[i].r.b l0[i].r.o.length l0[i].r.c)],oI z4 122 [(.slice (aD z3) nb.length b0.length),(.slice cb l.length cc)],am cb cc 169 3 (cr l),am (aD z3) b0.length 3 1 (aX nb),oI z2 122 [nS,nS],oI z1 122 [(.slice sb b0.length sc),(.slice tb l0.length tc)]]++((eI 173 pl)++(eI 173 p3)))) (by exact eg [] _ (eI 173 pl) (eI 173 p3)) ?_
   refine bq F F (dw F F (bt F) ?_)
   refine bw ?_
   refine aJ (ad (cx (a:=j) (b:=1) F F (by omega)) (ah F (ae ?_)))
   exact⟨j+1,by omega,_,(by rw[AX];exact(by exact Sub.d (.k (.k (.k (.k (.k (.k .rf)))))))),r4,pl++p3,F,by omega,by rw[CQ u9,←Rs,hr4],Vn,Gt.mono fun x hx=>List.mem_append_right _ hx,(.of F)⟩
  have SN: ¬j<l0[i].r.o.length:=by omega
  refine bJ ?_
  refine aB ?_
  have hje:j=l0[i].r.o.length:=by omega
  subst hje
  rw[List.take_length]at Rs
  have TX:eB ls kk r3.o:=by rw[Rs];exact vA hG hx (Nat.le_of_lt lA) Qi
  obtain⟨v3,c3,g3,s3⟩:=(ho.dk _ lA).rows.get lV
  have Kk:(lf ls kk).d.next[l0[i].s].length=da (lf ls kk).d:=(hG.iI lA).len _ (List.getElem_mem lV)
  have W3:x<da (lf ls kk).d:=by unfold da;rw[hG.vars _ (iU lA)];exact hx
  have TY:x<(lf ls kk).d.next[l0[i].s].length:=by rw[Kk];exact W3
  have tx:=((hG.iI lA).toVal.fF lV W3).1
  refine eD [(0,0),(1,0),(2,0),(3,0),(4,0),(5,0),(6,0),(7,0),(8,1),(9,2)] ?_
  refine ao F (az F) (ao F (aK F) (ao F (br e8 F fe F F (ay ho.bx) (by first|omega|(simp;done)|(simp;omega)|(simp_all;done)|(simp_all;omega))) (ao F (cd d_ F F (ay ho.bx) F) (ao F (aN jK F aO F F) (ao F (a7 (aQ 0 cS F F F F) (v':=vN kk) (by show Value.int _ _=_;rw[xD])) (ao F (cY (i:=kk) d_ dN F F (ay ho.rw) lA (by rw[cU ho.kl];omega)) (ao F (dy (vs:=[v8 ((lf ls kk).op),vI (lf ls kk).d.vars,vN ((lf ls kk).d.start.toNat),(.slice (lk ks kk).k.nb ((lf ls kk).d.next.length) ((lk ks kk).k.nc)),(.slice (lk ks kk).k.fb ((lf ls kk).d.ax.length) ((lk ks kk).k.fc)),(.slice (lk ks kk).b ((lf ls kk).fo.length) ((lk ks kk).c)),.bool (lf ls kk).la]) fX F dN F F (Nat.succ_pos _) (ay ho.rw) (my ho.kl lA (hG.iI lA).s0)) ?_)))))))
  refine bo F F (aR dN F (fun z8=>⟨by exact Sub.d (.k (.k (.k (.k (.k (.k .rf)))))),?_⟩))
  refine bq F F (a8 (vs:=[v8 ((lf ls kk).op),vI (lf ls kk).d.vars,vN ((lf ls kk).d.start.toNat),(.slice (lk ks kk).k.nb ((lf ls kk).d.next.length) ((lk ks kk).k.nc)),(.slice (lk ks kk).k.fb ((lf ls kk).d.ax.length) ((lk ks kk).k.fc)),(.slice (lk ks kk).b ((lf ls kk).fo.length) ((lk ks kk).c)),.bool (lf ls kk).la]) 0 dN F F F F ?_)
  refine bw ?_
  refine ai (ad (aN fX F aY F F) (ad (aN bW F dM F F) (ad (aQ 0 du F F F F) (ad (aN jK F aO F F) (ad (aQ 1 cS F F F F) (ad (cV (i:=l0[i].s) du bV F F (ay (ho.dk _ lA).outer) lV ((ho.dk _ lA).rows.1▸lV)) (ad (cd bK F F (ay (ho.dk _ lA).outer) g3) (ah F (ad (cV (i:=x) bK aO F F (ay s3) TY (by rw[List.length_map];exact TY)) (ad (cd cS F F (ay s3) (uy (hG.iI lA) lV W3)) (aj F (ae (ai (ah F (ad (aN jK F aO F F) (ad (a7 (aQ 1 cS F F F F) (v':=vN kk) (by show Value.int _ _=_;rw[xD])) (ah F (ah F (ad (bG (cs:=[vN kk,vN (dY (lf ls kk).d l0[i].s x),(.slice r3.b r3.o.length r3.c)]) yJ gO (by kernel_rfl)) ?_)))))))))))))))))))
  have NE:=P9 w hG hK vw (cW (aD ob) 0) z4 (aD z3) b0.length nb [oI z8 118 [v8 ((lf ls kk).op),vI (lf ls kk).d.vars,vN ((lf ls kk).d.start.toNat),(.slice (lk ks kk).k.nb ((lf ls kk).d.next.length) ((lk ks kk).k.nc)),(.slice (lk ks kk).k.fb ((lf ls kk).d.ax.length) ((lk ks kk).k.fc)),(.slice (lk ks kk).b ((lf ls kk).fo.length) ((lk ks kk).c)),.bool (lf ls kk).la],oI z6 169 [vI l0[i].k,vN (l0[i].s),(.slice l0[i].r.b l0[i].r.o.length l0[i].r.c)],am (aD z3) b0.length 3 1 (aX nb),oI z2 122 [nS,nS],oI z1 122 [(.slice sb b0.length sc),(.slice tb l0.length tc)]] cb cc l p3 ⟨(kk:Int),dY (lf ls kk).d l0[i].s x,r3⟩ Gt (.inr ⟨kk,F,lA,tx,TX⟩) BO (O:=[oI z8 118 [v8 ((lf ls kk).op),vI (lf ls kk).d.vars,vN ((lf ls kk).d.start.toNat),(.slice (lk ks kk).k.nb ((lf ls kk).d.next.length) ((lk ks kk).k.nc)),(.slice (lk ks kk).k.fb ((lf ls kk).d.ax.length) ((lk ks kk).k.fc)),(.slice (lk ks kk).b ((lf ls kk).fo.length) ((lk ks kk).c)),.bool (lf ls kk).la],oI z6 169 [vI l0[i].k,vN (l0[i].s),(.slice l0[i].r.b l0[i].r.o.length l0[i].r.c)],oI z4 122 [(.slice (aD z3) nb.length b0.length),(.slice cb l.length cc)],am cb cc 169 3 (cr l),am (aD z3) b0.length 3 1 (aX nb),oI z2 122 [nS,nS],oI z1 122 [(.slice sb b0.length sc),(.slice tb l0.length tc)]]) (by exact Sub.dr [oI z8 118 [v8 ((lf ls kk).op),vI (lf ls kk).d.vars,vN ((lf ls kk).d.start.toNat),(.slice (lk ks kk).k.nb ((lf ls kk).d.next.length) ((lk ks kk).k.nc)),(.slice (lk ks kk).k.fb ((lf ls kk).d.ax.length) ((lk ks kk).k.fc)),(.slice (lk ks kk).b ((lf ls kk).fo.length) ((lk ks kk).c)),.bool (lf ls kk).la],oI z6 169 [vI l0[i].k,vN (l0[i].s),(.slice l0[i].r.b l0[i].r.o.length l0[i].r.c)]] _ (.dr [oI z8 118 [v8 ((lf ls kk).op),vI (lf ls kk).d.vars,vN ((lf ls kk).d.start.toNat),(.slice (lk ks kk).k.nb ((lf ls kk).d.next.length) ((lk ks kk).k.nc)),(.slice (lk ks kk).k.fb ((lf ls kk).d.ax.length) ((lk ks kk).k.fc)),(.slice (lk ks kk).b ((lf ls kk).fo.length) ((lk ks kk).c)),.bool (lf ls kk).la],oI z6 169 [vI l0[i].k,vN (l0[i].s),(.slice l0[i].r.b l0[i].r.o.length l0[i].r.c)]] _ (.k (.k (.k (.k (.k .z)))))))
  refine ak F (aP CN NE F ?_)
  clear NE
  rintro vr O' ⟨AU,AV,l4,rfl,rfl,Qa,Qb⟩
  refine ae (ai (ad (aN fX F aY F F) (ad (aN bW F cA F F) (ad (aQ 2 df F F F F) (ah F (ad (cV (i:=(dY (lf ls kk).d l0[i].s x)) df dU F F (ay (ho.dk _ lA).ax) (by rw[(hG.iI lA).fin];exact tx) (by rw[List.length_map,(hG.iI lA).fin];exact tx)) (ad (cd zi F F (ay (ho.dk _ lA).ax) (mR (hG.iI lA) tx)) (ae (T.cond F (fun hc=>?_) (fun hc=>?_))))))))))
  ·have vx:cF (lf ls kk).d (dY (lf ls kk).d l0[i].s x)=true:=hc
   refine aJ (ah F (ad (aN jK F aO F F) (ad (a7 (aQ 3 cS F F F F) (v':=vN kk) (by show Value.int _ _=_;rw[xD])) (ah F ?_))))
   have AZ:=(oQ.frame ((CO w ob lb lc cv fv ls ks ho vs hG hK vw z4 (aD z3) b0.length b0.length nb W0 (2*ls.length)).2 kk r3 lA (by omega) (TX.mono (Nat.le_succ _))) [oI z8 118 [v8 ((lf ls kk).op),vI (lf ls kk).d.vars,vN ((lf ls kk).d.start.toNat),(.slice (lk ks kk).k.nb ((lf ls kk).d.next.length) ((lk ks kk).k.nc)),(.slice (lk ks kk).k.fb ((lf ls kk).d.ax.length) ((lk ks kk).k.fc)),(.slice (lk ks kk).b ((lf ls kk).fo.length) ((lk ks kk).c)),.bool (lf ls kk).la],oI z6 169 [vI l0[i].k,vN (l0[i].s),(.slice l0[i].r.b l0[i].r.o.length l0[i].r.c)],oI z2 122 [nS,nS],oI z1 122 [(.slice sb b0.length sc),(.slice tb l0.length tc)]] (O:=[oI z4 122 [(.slice (aD z3) nb.length b0.length),(.slice AU l4.length AV)],am AU AV 169 3 (cr l4),oI z8 118 [v8 ((lf ls kk).op),vI (lf ls kk).d.vars,vN ((lf ls kk).d.start.toNat),(.slice (lk ks kk).k.nb ((lf ls kk).d.next.length) ((lk ks kk).k.nc)),(.slice (lk ks kk).k.fb ((lf ls kk).d.ax.length) ((lk ks kk).k.fc)),(.slice (lk ks kk).b ((lf ls kk).fo.length) ((lk ks kk).c)),.bool (lf ls kk).la],oI z6 169 [vI l0[i].k,vN (l0[i].s),(.slice l0[i].r.b l0[i].r.o.length l0[i].r.c)],am (aD z3) b0.length 3 1 (aX nb),oI z2 122 [nS,nS],oI z1 122 [(.slice sb b0.length sc),(.slice tb l0.length tc)]]) AU AV l4 p3 Qb BO (by exact Sub.k (.k (.dr [oI z8 118 [v8 ((lf ls kk).op),vI (lf ls kk).d.vars,vN ((lf ls kk).d.start.toNat),(.slice (lk ks kk).k.nb ((lf ls kk).d.next.length) ((lk ks kk).k.nc)),(.slice (lk ks kk).k.fb ((lf ls kk).d.ax.length) ((lk ks kk).k.fc)),(.slice (lk ks kk).b ((lf ls kk).fo.length) ((lk ks kk).c)),.bool (lf ls kk).la],oI z6 169 [vI l0[i].k,vN (l0[i].s),(.slice l0[i].r.b l0[i].r.o.length l0[i].r.c)]] _ (.k (.k (.k (.k .z))))))))
   refine ak F (aP yK AZ F ?_)
   clear AZ
   rintro vr O' ⟨W4,W5,l5,p5,rfl,rfl,hm5,hS5,Wj⟩
   refine ae (aJ (ad (cx (a:=i) (b:=1) F F (by omega)) (ah F (ae ?_))))
   have e9:iv ls nb x l0[i].cf=⟨(kk:Int),dY (lf ls kk).d l0[i].s x,r3.o⟩::fG ls (2*ls.length) nb kk r3.o:=by
    unfold iv
    rw[if_neg (show¬l0[i].cf.k<0 from by show¬l0[i].k<0;omega),Rs]
    simp only[CR.cf,xD,Int.toNat_natCast]
    rw[if_pos vx]
   exact⟨i+1,by omega,[oI z4 122 [(.slice (aD z3) nb.length b0.length),(.slice W4 l5.length W5)],am W4 W5 169 3 (cr l5),am (aD z3) b0.length 3 1 (aX nb),oI z2 122 [nS,nS],oI z1 122 [(.slice sb b0.length sc),(.slice tb l0.length tc)]]++eI 173 p5,(by exact Sub.k (.k (.k (.d (.d (.k (.k .rf))))))),W4,W5,l5,p5,F,by omega,by rw[IP,List.foldl_append,←hm,e9,hm5,Qa];rfl,hS5,(.of F)⟩
  have vx: ¬cF (lf ls kk).d (dY (lf ls kk).d l0[i].s x)=true:=by rw[hc];simp
  refine av (aJ (ad (cx (a:=i) (b:=1) F F (by omega)) (ah F (ae ?_))))
  have e9:iv ls nb x l0[i].cf=⟨(kk:Int),dY (lf ls kk).d l0[i].s x,r3.o⟩::[]:=by
   unfold iv
   rw[if_neg (show¬l0[i].cf.k<0 from by show¬l0[i].k<0;omega),Rs]
   simp only[CR.cf,xD,Int.toNat_natCast]
   rw[if_neg vx]
  exact⟨i+1,by omega,[oI z4 122 [(.slice (aD z3) nb.length b0.length),(.slice AU l4.length AV)],am AU AV 169 3 (cr l4),am (aD z3) b0.length 3 1 (aX nb),oI z2 122 [nS,nS],oI z1 122 [(.slice sb b0.length sc),(.slice tb l0.length tc)]]++eI 173 p3,(by exact Sub.k (.k (.d (.d (.k (.k (.k .rf))))))),AU,AV,l4,p3,F,by omega,by rw[IP,List.foldl_append,←hm,e9,Qa];rfl,Qb,(.of F)⟩
 have Y_: ¬i<l0.length:=by omega
 refine bJ ?_
 refine ai (ad (dh 0 ie F eZ F F F) (ak F (a8 (vs:=[(.slice (aD z3) nb.length b0.length),(.slice cb l.length cc)]) 3 eZ F F F F ?_)))
 refine ae (aA (ap ?_))
 refine bL (i:=3) Tryz.results77 ie F eZ F F F ?_
 have uf:i=l0.length:=by omega
 subst uf
 rw[List.take_length]at hm
 exact⟨[am (aD z3) b0.length 3 1 (aX nb),am cb cc 169 3 (cr l)]++eI 173 p,(by exact Sub.d (.dr [am cb cc 169 3 (cr l)] _ (.k (.d (.d .rf))))),(aD z3),b0.length,b0.length,cb,cc,l,p,by rw[←Ab];rfl,by rw[←Ab],by rw[hm,←Ab],hS⟩
end Go.Proofs.YtgdbfideeeegmaaGreatDoor

namespace Go.Proofs
open Go.Shelf
def Tryz.Bk:Go.Shelf.Ren:=⟨fun|190=>111|125=>159|258=>158|128=>208|129=>209|302=>199|303=>200|304=>201|305=>202|306=>203|307=>204|308=>205|309=>206|310=>207|333=>225|329=>226|330=>227|334=>228|335=>229|336=>230|344=>254|n=>n,fun|31=>166|9=>9|3=>3|46=>101|0=>0|51=>254|53=>256|4=>4|183=>247|182=>246|131=>161|5=>5|218=>268|222=>272|228=>289|229=>290|n=>n,fun|n=>n⟩
theorem Tryz.Ew:Go.Proofs.Lays.n190 Tryz.prog Tryz.Bk:= {
 mixed:=by kernel_rfl
 f125:=func159.trans (congrArg some (by kernel_rfl))
 f128:=func208.trans (congrArg some (by kernel_rfl))
 f129:=func209.trans (congrArg some (by kernel_rfl))
 f190:=func111.trans (congrArg some (by kernel_rfl))
 f258:=func158.trans (congrArg some (by kernel_rfl))
 f302:=func199.trans (congrArg some (by kernel_rfl))
 f303:=func200.trans (congrArg some (by kernel_rfl))
 f304:=func201.trans (congrArg some (by kernel_rfl))
 f305:=func202.trans (congrArg some (by kernel_rfl))
 f306:=func203.trans (congrArg some (by kernel_rfl))
 f307:=func204.trans (congrArg some (by kernel_rfl))
 f308:=func205.trans (congrArg some (by kernel_rfl))
 f309:=func206.trans (congrArg some (by kernel_rfl))
 f310:=func207.trans (congrArg some (by kernel_rfl))
 f329:=func226.trans (congrArg some (by kernel_rfl))
 f330:=func227.trans (congrArg some (by kernel_rfl))
 f333:=func225.trans (congrArg some (by kernel_rfl))
 f334:=func228.trans (congrArg some (by kernel_rfl))
 f335:=func229.trans (congrArg some (by kernel_rfl))
 f336:=func230.trans (congrArg some (by kernel_rfl))
 f344:=func254.trans (congrArg some (by kernel_rfl))
 t0:=underlying0
 a0:=Tryz.isAgg0
 z0:=Tryz.sizeOf0
 v0:=Tryz.zeroValue0
 t3:=underlying3
 a3:=Tryz.isAgg3
 z3:=Tryz.sizeOf3
 v3:=Tryz.zeroValue3
 t4:=underlying4
 a4:=Tryz.isAgg4
 z4:=Tryz.sizeOf4
 v4:=Tryz.zeroValue4
 t5:=underlying5
 a5:=Tryz.isAgg5
 z5:=Tryz.sizeOf5
 v5:=Tryz.zeroValue5
 t9:=underlying9
 a9:=Tryz.isAgg9
 z9:=Tryz.sizeOf9
 v9:=Tryz.zeroValue9
 t31:=underlying166
 a31:=Tryz.isAgg166
 z31:=Tryz.sizeOf166
 v31:=Tryz.zeroValue166
 t46:=underlying101
 a46:=Tryz.isAgg101
 z46:=Tryz.sizeOf101
 v46:=Tryz.zeroValue101
 t51:=underlying254
 a51:=Tryz.isAgg254
 z51:=Tryz.sizeOf254
 v51:=Tryz.zeroValue254
 t53:=underlying256
 a53:=Tryz.isAgg256
 z53:=Tryz.sizeOf256
 v53:=Tryz.zeroValue256
 t131:=underlying161
 a131:=Tryz.isAgg161
 z131:=Tryz.sizeOf161
 v131:=Tryz.zeroValue161
 t182:=underlying246
 a182:=Tryz.isAgg246
 z182:=Tryz.sizeOf246
 v182:=Tryz.zeroValue246
 t183:=underlying247
 a183:=Tryz.isAgg247
 z183:=Tryz.sizeOf247
 v183:=Tryz.zeroValue247
 t218:=underlying268
 a218:=Tryz.isAgg268
 z218:=Tryz.sizeOf268
 v218:=Tryz.zeroValue268
 t222:=underlying272
 a222:=Tryz.isAgg272
 z222:=Tryz.sizeOf272
 v222:=Tryz.zeroValue272
 t228:=underlying289
 a228:=Tryz.isAgg289
 z228:=Tryz.sizeOf289
 v228:=Tryz.zeroValue289
 t229:=underlying290
 a229:=Tryz.isAgg290
 z229:=Tryz.sizeOf290
 v229:=Tryz.zeroValue290}
open Go.RowKit Go.Sort Go.Lib in
theorem Tryz.slices_Sort_string (jH off cap:Nat) (ss:List (List UInt8)) (w:World) (hH:Holds encStr w jH off ss.toArray) (QP:jH<w.heap.size) (rZ:ss.length<4611686018427387904):
  Calls Tryz.prog 111 #[.slice (some ⟨jH,off,none⟩) ss.length cap] w fun e w'=>
   e=.returned (.tuple #[])∧ ∃n os,w'=grow (putRow encStr (Sort.ahead w n) jH off (ss.mergeSort fun x y=>decide (x≤y)).toArray) os:=Any.slices_Sort_string Tryz.Ew jH off cap ss w hH QP rZ
end Go.Proofs
namespace Go.Lx
open Go.RowKit Go.Sort Go.Proofs
def strs (l:List Key):List Value:=l.map str
theorem vB (l:List Key):(strs l).length=l.length:=List.length_map _
theorem IS {l:List Key} {i:Nat} (h:i<l.length):(strs l)[i]? =some (str l[i]):=by unfold strs;rw[List.getElem?_map,List.getElem?_eq_getElem h];rfl
theorem Inv.Mb {base w:World} {O:List Lx.Item} {i jH off cap:Nat} {T:TypeId} {zs ys:List Key} (hI:Inv base O w) (hO:O[i]? =some (am (some ⟨jH,off,none⟩) cap T 1 (strs zs))) (hl:ys.length=zs.length) (n:Nat) (os:Array Obj):
  Inv base (O.set i (am (some ⟨jH,off,none⟩) cap T 1 (strs ys))) (Go.Sort.grow (putRow encStr (Sort.ahead w n) jH off ys.toArray) os):=by
 obtain⟨_,full,hb,l_,QQ,Gv⟩:=hI.row hO
 have eV:jH<w.heap.size:=(Array.getElem?_eq_some_iff.1 hb).1
 have vP:(Go.Sort.grow (putRow encStr (Sort.ahead w n) jH off ys.toArray) os).heap=(w.heap.modify jH (onCells (putCells encStr off ys.toArray)))++os:=rfl
 refine hI.p6 hO F F F ?_ (fun b Vp hk=>?_) ⟨F,putCells encStr off ys.toArray full,?_,?_,?_,fun j hj=>?_⟩ (fun k hk=>.inl hk) (by simp[am])
 ·rw[vP];simp
 ·rw[vP,Array.getElem?_append_left (by simpa using Vp),Array.getElem?_modify,if_neg (fun e=>hk (by simp[am,e]))]
 ·rw[vP,Array.getElem?_append_left (by simpa using eV),Array.getElem?_modify,if_pos F,hb];rfl
 ·simp only[vB]at l_⊢;omega
 ·rw[pR];exact QQ
 ·have qj:j<ys.length:=by simpa[strs]using hj
  have Xf:zs.length≤cap*1:=by simpa[strs]using l_
  have Xg:off+cap*1≤full.size:=QQ
  show(putCells encStr off ys.toArray full)[off+j]? =_
  rw[tF _ _ _ _ (by simpa using qj) (by omega),show(strs ys)[j]=str ys[j] by simp[strs]]
  simp[qj];rfl
theorem C6 {base w:World} {O:List Lx.Item} {i jH off cap:Nat} {T:TypeId} {zs:List Key} (hI:Inv base O w) (hO:O[i]? =some (am (some ⟨jH,off,none⟩) cap T 1 (strs zs))):Holds encStr w jH off zs.toArray∧jH<w.heap.size:=by
 obtain⟨_,full,hb,l_,QQ,Gv⟩:=hI.row hO
 refine⟨fun j hj=>?_,(Array.getElem?_eq_some_iff.1 hb).1⟩
 have qj:j<zs.length:=by simpa using hj
 have h9:=Gv j (by simpa[strs]using qj)
 rw[show(strs zs)[j]'(by simpa[strs]using qj)=str zs[j] by simp[strs]]at h9
 constructor
 ·simp only[World.cell?,hb]
  simp at h9
  simp[h9,qj];rfl
 ·simp[World.frozen?,hb]
end Go.Lx
namespace Go.Proofs.YtgdbfideeeegmaaGreatDoor
open Go.Lx Go.RowKit Go.Proofs Go.Sort _root_.Go.Proofs.Tryz
theorem IR (base:World) (b:Option Addr) (c:Nat) (zs:List Key) (rZ:zs.length<4611686018427387904):bm Tryz.prog base 111 [.slice b zs.length c] [am b c 9 1 (strs zs)] (fun v O'=>v=.tuple #[]∧O'=[am b c 9 1 (strs (zs.mergeSort ui))]):=fun w M hI=>by
 have hO:(([am b c 9 1 (strs zs)]++M:List Lx.Item))[0]? =some (am b c 9 1 (strs zs)):=rfl
 cases b with
 |none=>
  have hz:zs=[]:=by have h:=(hI.row hO).1;simpa[strs]using h
  subst hz
  refine(Any.slices_Sort_string_none Tryz.Ew none c w).mono ?_
  rintro e w' ⟨rfl,rfl⟩
  refine⟨_,_,F,?_,F,F⟩
  have h9:([]:List Key).mergeSort ui=[]:=by simp
  rw[h9];exact hI
 |some a=>
  obtain⟨jH,off,sp⟩:=a
  have wl:sp=none:=(hI.row hO).1
  subst wl
  obtain⟨hH,hb⟩:=C6 hI hO
  refine(Tryz.slices_Sort_string jH off c zs w hH hb rZ).mono ?_
  rintro e w' ⟨rfl,n,os,rfl⟩
  refine⟨_,_,F,?_,F,F⟩
  exact hI.Mb (ys:=zs.mergeSort ui) hO (List.length_mergeSort zs) n os
end Go.Proofs.YtgdbfideeeegmaaGreatDoor

namespace Go.Proofs.YtgdbfideeeegmaaGreatDoor
open Go.Lx Go.RowKit _root_.Go.Proofs.Tryz
theorem LY (w:World) [cG Tryz.prog w] (y:CR):
  bI Tryz.prog 117 [(.agg #[vI y.k,vN y.s,(.slice y.r.b y.r.o.length y.r.c)])] w fun v N=>v=.bool (decide (y.cf.k<0)&&y.cf.o.isEmpty)∧N=[]:=by
 refine aw func117 F ntmps117 F ?_
 refine ai (ak F (cH (cs:=[vI y.k,vN y.s,(.slice y.r.b y.r.o.length y.r.c)]) F F (fun lX=>?_)))
 refine aj F (ae (ai (ad (aN jK F aO F F) (ad (aQ 0 cS F F F F) (ad (bT F F) ?_)))))
 by_cases hk:y.k<0
 ·refine ad (aq (az F) (decide_eq_true hk)) ?_
  refine au F F (aN jK F yH F F) (au F F (aQ 0 gV F F F F) (au F F (bS gV F) (au F F (aZ F F) (ad (bu F F) (aj F (ae (aA (ap ?_))))))))
  refine aE (.bool (decide ((y.r.o.length:Int)=0))) Tryz.results117 F ?_
  exact⟨[],Sub.z,congrArg Value.bool (by show _=(decide (y.k<0)&&y.r.o.isEmpty);rw[decide_eq_true hk,Bool.true_and];cases y.r.o<;>simp<;>omega),F⟩
 refine ad (aq (az F) (decide_eq_false hk)) (aF F F (aF F F (aF F F (aF F F (ad (bl F F) (aj F (ae (aA (ap ?_)))))))))
 refine aE (.bool false) Tryz.results117 F ?_
 exact⟨[],Sub.z,congrArg Value.bool (by show _=(decide (y.k<0)&&y.r.o.isEmpty);rw[decide_eq_false hk,Bool.false_and]),F⟩
theorem LZ (w:World) [cG Tryz.prog w] (ov:Value) (bh:List Nat) (bv:Value) (cb:Option Addr) (cc:Nat) (l:List CR) (hl:Sl w cb (cr l)) (hK:l.length<137438953472):
  bI Tryz.prog 78 [ov,(.agg #[bv,(.slice cb l.length cc)])] w fun v N=>v=.bool (ql ⟨bh,l.map CR.cf⟩)∧N=[]:=by
 refine aw func78 F ntmps78 F ?_
 refine ai (ak F (cH (cs:=[bv,(.slice cb l.length cc)]) F F (fun z1=>?_)))
 refine aj F (ae (ai (ad (aN ie F oO F F) (ad (aQ 0 lO F F F F) ?_))))
 have AB:=fun(w1:World) (hI:Inv w [oI z1 122 [bv,(.slice cb l.length cc)]] w1)=>(haveI:=di hI;(show bI _ _ _ _ (fun v N=>v=Value.bool (ql ⟨bh,l.map CR.cf⟩)∧N=[])from by
   have h9:=oN w1 cb cc l (hI.sl hl) (by omega) ((.func (.func 117) #[] #[])) (fun y=>decide (y.cf.k<0)&&y.cf.o.isEmpty) (fun y hy=>bQ (first:=[]) (args:=[(.agg #[vI y.k,vN y.s,(.slice y.r.b y.r.o.length y.r.c)])]) (eY:=[]) Qj (LY w1 y))
   have e9:(l.any fun y=>decide (y.cf.k<0)&&y.cf.o.isEmpty)=ql ⟨bh,l.map CR.cf⟩:=by unfold ql;rw[List.any_map];rfl
   rw[e9]at h9
   exact h9))
 refine ak F (aP ID (aI AB) F ?_)
 clear AB
 rintro vr O' ⟨N,rfl,rfl,rfl⟩
 refine aj F (ae (aA (ap ?_)))
 refine aE (.bool (ql ⟨bh,l.map CR.cf⟩)) Tryz.results78 F ?_
 exact⟨[],Sub.z,F,F⟩
theorem A0 {α β:Type} {B:Nat} {f:α→List β}: ∀ {l:List α},(∀x∈l,(f x).length≤B)→(l.flatMap f).length≤B*l.length
 | [],_=>by simp
 |x::l,h=>by
  have h1:=h x (by simp);have h2:=A0 (l:=l) fun y hy=>h y (by simp[hy])
  rw[List.flatMap_cons,List.length_append,List.length_cons,Nat.mul_succ];omega
theorem TZ (w:World) [cG Tryz.prog w] (ov:Value) (bb:Option Addr) (bc:Nat) (bh:List Nat) (Qk:Sl w bb (aX bh)) (Qh:bh.length≤12) (Za: ∀n∈bh.map (fun y:Nat=>(y:Int)),kI n) (cb:Option Addr) (cc:Nat) (l:List CR) (hl:Sl w cb (cr l)) (hK:l.length<137438953472) {ls:List Lf} {vs:Nat} (hG:gN ls vs) (hg: ∀y∈l,gW ls y.cf) (K0: ∀y∈l,y.r.o.length≤12) (AW: ∀y∈l,Sl w y.r.b (eh y.r.o)):
  bI Tryz.prog 76 [ov,(.agg #[(.slice bb bh.length bc),(.slice cb l.length cc)])] w fun v N=>v=str (St.key ⟨bh,l.map CR.cf⟩)∧N=[]:=by
 refine aw func76 F ntmps76 F ?_
 refine ai (ak F (cH (cs:=[(.slice bb bh.length bc),(.slice cb l.length cc)]) F F (fun z1=>?_)))
 refine aj F (ae (ai (aj F (ae (aB (ai (ad (aN ie F oO F F) (ad (aQ 0 lO F F F F) (ad (bS lO F) (ah F (ae (aG (T.dJ 9 1 ?_)))))))))))))
 refine cM (fun(i:Nat) ρ O=> ∃(kb:Option Addr) (kc:Nat),O=[am kb kc 9 1 (strs ((l.take i).map fun y=>y.cf.key)),oI z1 122 [(.slice bb bh.length bc),(.slice cb l.length cc)]]∧i≤l.length∧cw [(1,(.agg #[(.slice bb bh.length bc),(.slice cb l.length cc)])),(3,(.pointer (aD z1))),(4,(str [])),(5,(.slice kb i kc)),(12,(.slice cb l.length cc)),(13,vI (l.length:Int)),(14,vN i)] ρ) (fun i=>l.length-i) 0 ?_ ?_
 ·exact⟨none,0,F,Nat.zero_le _,(.of F)⟩
 rintro i ρ O ⟨kb,kc,rfl,hi,hH⟩
 obtain⟨fE,rfl⟩:=hH.elim
 clear hH
 refine ai (ad (bT F F) (ae (aB (aC F (fun hc=>?_) (fun hc=>?_)))))
 ·have nY:i<l.length:=by omega
  have VD:=hg _ (List.getElem_mem nY)
  refine av (aB (aG (ai (ad (cY (i:=i) lO gO F F (ay hl) nY (by rw[nl];omega)) (ad (dy (vs:=[vI l[i].k,vN (l[i].s),(.slice l[i].r.b l[i].r.o.length l[i].r.c)]) jK F gO F F (Nat.succ_pos _) (ay hl) (qq nY)) (ak F (aR gO F (fun z2=>?_))))))))
  refine ak F (a8 (vs:=[vI l[i].k,vN (l[i].s),(.slice l[i].r.b l[i].r.o.length l[i].r.c)]) 0 gO F F F F ?_)
  refine ae (aJ (ah F (ad (dh 0 jK F gO F F F) ?_)))
  have lh:=fun(w1:World) (hI:Inv w [oI z2 169 [vI l[i].k,vN (l[i].s),(.slice l[i].r.b l[i].r.o.length l[i].r.c)],am kb kc 9 1 (strs ((l.take i).map fun y=>y.cf.key)),oI z1 122 [(.slice bb bh.length bc),(.slice cb l.length cc)]] w1)=>(haveI:=di hI;CJ w1 l[i].k l[i].s l[i].r (hI.sl (AW _ (List.getElem_mem nY))) (VD.num hG) (VD.PW hG))
  refine ak F (aP CK (aI lh) F ?_)
  clear lh
  rintro vr O' ⟨N,rfl,rfl,rfl⟩
  refine ak F (bM (v:=str l[i].cf.key) A2 Cs F F F (fun z3=>?_))
  refine ak F (bY 2 A2 A2 Cs F F F F (by rw[vB,List.length_map,List.length_take];omega) (by decide) (Src.row (j:=0) F (by simp)) (by rfl) (by omega) (by decide) (by decide) (fun z4 FR=>?_))
  refine aj F (ae (aJ (ad (cx (a:=i) (b:=1) F F (by omega)) (ah F (ae ?_)))))
  exact⟨i+1,by omega,[am z4 FR 9 1 ((strs ((l.take i).map fun y=>y.cf.key))++[str l[i].cf.key]),oI z1 122 [(.slice bb bh.length bc),(.slice cb l.length cc)]],(by exact Sub.d (.d (.k (.k .z)))),z4,FR,by rw[List.take_succ_eq_append_getElem nY,List.map_append];simp[strs],by omega,(.of F)⟩
 have MK: ¬i<l.length:=by omega
 refine bJ ?_
 refine ai (ah F ?_)
 have mw:=(show bm _ _ _ _ _ (fun v O'=> ∃A',O'=A'++[oI z1 122 [(.slice bb bh.length bc),(.slice cb l.length cc)]]∧(v=Value.tuple #[]∧A'=[am kb kc 9 1 (strs ((l.map fun y=>y.cf.key).mergeSort ui))]))from by
   have h9:=IR w kb kc ((l.take i).map fun y=>y.cf.key) (by rw[List.length_map,List.length_take];omega)
   rw[List.length_map,List.length_take,Nat.min_eq_left hi]at h9
   have e9:(l.map fun y=>y.cf.key).mergeSort ui=((l.take i).map fun y=>y.cf.key).mergeSort ui:=by rw[List.take_of_length_le (show l.length≤i by omega)]
   rw[e9]
   exact h9.under (B:=[oI z1 122 [(.slice bb bh.length bc),(.slice cb l.length cc)]]) (by exact Sub.rf))
 refine ak F (aP Ql mw F ?_)
 clear mw
 rintro vr O' ⟨A1,rfl,rfl,rfl⟩
 refine ae (ai (ad (aN ie F bV F F) (ad (aQ 1 bK F F F F) ?_)))
 have AK:=fun(w1:World) (hI:Inv w [am kb kc 9 1 (strs ((l.map fun y=>y.cf.key).mergeSort ui)),oI z1 122 [(.slice bb bh.length bc),(.slice cb l.length cc)]] w1)=>(haveI:=di hI;(show bI _ _ _ _ (fun v N=> ∃b' c',v=Value.slice b' (gi (bh.map fun y:Nat=>(y:Int))).length c'∧N=[am b' c' 5 1 (bZ (gi (bh.map fun y:Nat=>(y:Int))))])from by
   have h9:=D0 w1 bb bc (bh.map fun y:Nat=>(y:Int)) (by rw[eS];exact hI.sl Qk) Za (by rw[List.length_map];omega)
   rw[List.length_map]at h9
   exact h9))
 refine ak F (aP sv (aI AK) F ?_)
 clear AK
 rintro vr O' ⟨N,rfl,jb,jc,rfl,rfl⟩
 
 refine aj F (ae (aB (ai (ah F (ad (bS A2 F) (ah F (ae (aG ?_))))))))
 obtain⟨ks,lV⟩: ∃k,k=(l.map fun y=>y.cf.key).mergeSort ui:=⟨_,F⟩
 have lA:ks.length=l.length:=by rw[lV,List.length_mergeSort,List.length_map]
 have uf:i=l.length:=by omega
 have DX: ∀k∈ks,k.length≤400:=fun k hk=>by
  rw[lV]at hk
  obtain⟨y,hy,rfl⟩:=List.mem_map.1 ((List.mem_mergeSort).1 hk)
  have h1:=nh ((hg y hy).num hG);have h2:=K0 y hy
  have h3:y.cf.nums.length=y.r.o.length*2+2:=by show(qt y.r.o).length+1+1=_;rw[D7]
  have h4:y.cf.key=gi y.cf.nums:=rfl
  rw[h4];omega
 refine ck (O':=[am jb jc 5 1 (bZ (gi (bh.map fun y:Nat=>(y:Int)))),am kb kc 9 1 (strs ks),oI z1 122 [(.slice bb bh.length bc),(.slice cb l.length cc)]]) (by rw[lV];exact(by exact Sub.rf)) ?_
 refine cM (fun(j:Nat) ρ O=> ∃(tb:Option Addr) (tc:Nat),O=[am tb tc 5 1 (bZ (gi (bh.map fun y:Nat=>(y:Int))++(ks.take j).flatMap (fun k=>124::k))),am kb kc 9 1 (strs ks),oI z1 122 [(.slice bb bh.length bc),(.slice cb l.length cc)]]∧j≤i∧cw [(1,(.agg #[(.slice bb bh.length bc),(.slice cb l.length cc)])),(3,(.pointer (aD z1))),(4,(str [])),(5,(.slice kb i kc)),(8,(.slice tb ((gi (bh.map fun y:Nat=>(y:Int))++(ks.take j).flatMap (fun k=>124::k)).length) tc)),(29,(.slice kb i kc)),(30,vI (i:Int)),(31,vN j)] ρ) (fun j=>i-j) 0 ?_ ?_
 ·exact⟨jb,jc,by simp,Nat.zero_le _,⟨F,F,F,F,(show Value.slice jb (gi (bh.map fun y:Nat=>(y:Int))).length jc=_ by simp),F,F,F,trivial⟩⟩
 rintro j ρ O ⟨tb,tc,rfl,hj,hH⟩
 obtain⟨fE,rfl⟩:=hH.elim
 clear hH
 have pP:((ks.take j).flatMap (fun k=>(124:UInt8)::k)).length≤401*ks.length:=by
  have Sx:=A0 (B:=401) (f:=fun k:Key=>(124:UInt8)::k) (l:=ks.take j) (fun k hk=>by have:=DX k (List.mem_of_mem_take hk);simp;omega)
  have:=List.length_take_le j ks
  exact Nat.le_trans Sx (Nat.mul_le_mul_left _ (by rw[List.length_take];omega))
 have Lt:=nh Za
 rw[List.length_map]at Lt
 refine ai (ad (bT F F) (ae (aB (aC F (fun hc=>?_) (fun hc=>?_)))))
 ·have T1:j<i:=by omega
  have Ou:j<ks.length:=by omega
  have hkj:=DX _ (List.getElem_mem Ou)
  refine av (aB (aG (ai (ad (cV (i:=j) A2 Cs F F (cP (mG 1 F)) T1 (by rw[vB];exact Ou)) (ad (cd ra F F (cP (mG 1 F)) (IS Ou)) (aj F (ae (aJ (ah F (ak F (bM (v:=.int .u8 124) lj cI F F F (fun z6=>?_))))))))))))
  refine ak F (bY 1 lj lj cI F F F F (by first|(simp;done)|(simp;omega)) (by decide) (Src.row (j:=0) F (by simp)) (by simp[dS]) (by simp only[List.length_append];omega) (by decide) (by decide) (fun z7 Am=>?_))
  refine ah F (ak F (xa (l:=ks[j].length) (s:=ks[j]) 1 lj ra cI F F F F (by first|(simp;done)|(simp;omega)) F (by simp only[List.length_append];omega) (by decide) (by decide) (fun z9 kF=>?_)))
  refine aj F (ae (aJ (ad (cx (a:=j) (b:=1) F F (by omega)) (ah F (ae ?_)))))
  have e9:gi (bh.map fun y:Nat=>(y:Int))++(ks.take (j+1)).flatMap (fun k=>124::k)=gi (bh.map fun y:Nat=>(y:Int))++(ks.take j).flatMap (fun k=>124::k)++[124]++ks[j]:=by rw[List.take_succ_eq_append_getElem Ou,List.flatMap_append];simp
  exact⟨j+1,by omega,[am z9 kF 5 1 (((bZ (gi (bh.map fun y:Nat=>(y:Int))++(ks.take j).flatMap (fun k=>124::k)))++[.int .u8 124])++bZ ks[j]),am kb kc 9 1 (strs ks),oI z1 122 [(.slice bb bh.length bc),(.slice cb l.length cc)]],(by exact Sub.d (.k (.k (.k .z)))),z9,kF,by rw[e9];simp[bZ],by omega,⟨F,F,F,F,(congrArg (fun n9:Nat=>Value.slice z9 n9 kF) (by rw[e9];simp;omega)),F,F,F,trivial⟩⟩
 have Zb: ¬j<i:=by omega
 refine bJ ?_
 refine ai (ah F (ad (zQ (l:=gi (bh.map fun y:Nat=>(y:Int))++(ks.take j).flatMap (fun k=>124::k)) lj ra eu F (mG 0 F) F) (aj F (ae (aA (ap ?_))))))
 refine aE (str (gi (bh.map fun y:Nat=>(y:Int))++(ks.take j).flatMap (fun k=>124::k))) Tryz.results76 F ?_
 exact⟨[],Sub.z,by rw[List.take_of_length_le (show ks.length≤j by omega),lV];unfold St.key;rw[List.map_map];rfl,F⟩
end Go.Proofs.YtgdbfideeeegmaaGreatDoor

namespace Go.Proofs.YtgdbfideeeegmaaGreatDoor
open Go.Lx Go.RowKit _root_.Go.Proofs.Tryz
def lr (w:World) (cb:Nat) (vs B ob:Nat) (fv:Value) (t:Rx) (i:Nat):Prop:= ∀(lb:Option Addr) (lc:Nat) (ls:List Lf) (ks:List LK),ks.length=ls.length→ls.length+t.lv≤64→qu ls t→
 cB Tryz.prog w (.iface 163 (.agg #[])) 73 [(.pointer (aD ob)),vN i] ([cR ob (.cells (List.toArray [(cW (aD cb) 0),(.slice lb ls.length lc),fv]) 114 (0,0)),am lb lc 118 7 (cj ls ks)]++(a_ 3 (dG ls ks)++fm 56 4 3 ls ks)) (fun v O'=> ∃rS rT nO mK mL wj wk,v=.tuple #[(.slice mK (((aH vs t ls).fi).length) mL),(.slice wj (((aH vs t ls).la).length) wk)]∧O'=[cR ob (.cells (List.toArray [(cW (aD cb) 0),(.slice rS (((aH vs t ls).ls).length) rT),fv]) 114 (0,0)),am rS rT 118 7 (cj ((aH vs t ls).ls) nO),am mK mL 3 1 (aX ((aH vs t ls).fi)),am wj wk 3 1 (aX ((aH vs t ls).la))]++(a_ 3 (dG ((aH vs t ls).ls) nO)++fm 56 4 3 ((aH vs t ls).ls) nO)∧nO.length=(aH vs t ls).ls.length∧okB vs t B) (¬okB vs t B)
theorem lr.frame {w:World} {cb vs B0 ob:Nat} {fv:Value} {t:Rx} {i:Nat} (h:lr w cb vs B0 ob fv t i) (B:List Lx.Item) {O:List Lx.Item} (lb:Option Addr) (lc:Nat) (ls:List Lf) (ks:List LK) (hk:ks.length=ls.length) (hl:ls.length+t.lv≤64) (Gs:qu ls t) (hs:Sub ([cR ob (.cells (List.toArray [(cW (aD cb) 0),(.slice lb ls.length lc),fv]) 114 (0,0)),am lb lc 118 7 (cj ls ks)]++B) O):
  cB Tryz.prog w (.iface 163 (.agg #[])) 73 [(.pointer (aD ob)),vN i] (O++(a_ 3 (dG ls ks)++fm 56 4 3 ls ks)) (fun v O'=> ∃rS rT nO mK mL wj wk,v=.tuple #[(.slice mK (((aH vs t ls).fi).length) mL),(.slice wj (((aH vs t ls).la).length) wk)]∧O'=([cR ob (.cells (List.toArray [(cW (aD cb) 0),(.slice rS (((aH vs t ls).ls).length) rT),fv]) 114 (0,0)),am rS rT 118 7 (cj ((aH vs t ls).ls) nO),am mK mL 3 1 (aX ((aH vs t ls).fi)),am wj wk 3 1 (aX ((aH vs t ls).la))]++B)++(a_ 3 (dG ((aH vs t ls).ls) nO)++fm 56 4 3 ((aH vs t ls).ls) nO)∧nO.length=(aH vs t ls).ls.length∧okB vs t B0) (¬okB vs t B0):=by
 refine((h lb lc ls ks hk hl Gs).under (B:=B) (oR _ _ _ _ hs)).post ?_
 rintro v O' ⟨A',rfl,rS,rT,nO,mK,mL,wj,wk,rfl,rfl,h1⟩
 exact⟨_,oS _ _ _,rS,rT,nO,mK,mL,wj,wk,F,F,h1⟩
theorem kR (w:World) [cG Tryz.prog w] (cb:Nat) (eb:Option Addr) (en ec vs B:Nat) (dz:Sl w (aD cb) [.slice eb en ec,vI (vs:Int),vI (B:Int)]) (eT:vs≤6) (gn:1≤B) (hB:B≤4096) (e:List dF) (hE:Sl w eb (bg e)) (iA:en=e.length) (i:Nat) (ob:Nat) (fv:Value) (t:Rx) (x:dF) (hp:e[i]? =some x) (h4:x.op≠4) (h5:x.op≠5) (h9:x.op≠9) (T2:x.op≠10) (Kl:t.lv=1) (T3: ∀ls,aH vs t ls=⟨ls++[⟨0,minOf vs (gd t),[],false⟩],[ls.length],[ls.length]⟩) (T4:okB vs t B=iP vs t B) (T5: ∀(w1:World) [cG Tryz.prog w1],Inv w [] w1→cB Tryz.prog w1 (.iface 163 (.agg #[])) 72 [(cW (aD cb) 0),vN i] [] (qI vs B t) (¬iP vs t B)) (lb:Option Addr) (lc:Nat) (ls:List Lf) (ks:List LK) (lA:ks.length=ls.length) (hl:ls.length+t.lv≤64) (Gs:qu ls t):
  cB Tryz.prog w (.iface 163 (.agg #[])) 73 [(.pointer (aD ob)),vN i] ([oI ob 114 [(cW (aD cb) 0),(.slice lb ls.length lc),fv],am lb lc 118 7 (cj ls ks)]++(a_ 3 (dG ls ks)++fm 56 4 3 ls ks)) (fun v O'=> ∃rS rT nO mK mL wj wk,v=.tuple #[(.slice mK (((aH vs t ls).fi).length) mL),(.slice wj (((aH vs t ls).la).length) wk)]∧O'=[oI ob 114 [(cW (aD cb) 0),(.slice rS (((aH vs t ls).ls).length) rT),fv],am rS rT 118 7 (cj ((aH vs t ls).ls) nO),am mK mL 3 1 (aX ((aH vs t ls).fi)),am wj wk 3 1 (aX ((aH vs t ls).la))]++(a_ 3 (dG ((aH vs t ls).ls) nO)++fm 56 4 3 ((aH vs t ls).ls) nO)∧nO.length=(aH vs t ls).ls.length∧okB vs t B) (¬okB vs t B):=by
 refine cJ func73 F ntmps73 F ?_
 obtain⟨hi,_⟩:=gf hp
 simp only[T3]
 rw[T4]
 refine ai (aj F (aj F (ae (ai (ah F (ad (aK F) (ad (aN e8 F mz F F) (ad (aQ 0 tX F F F F) (ad (aK F) (ad (br iR F fJ F F (ay dz) (by first|omega|(simp;done)|(simp;omega)|(simp_all;done)|(simp_all;omega))) (ad (cd cN F F (ay dz) F) (ah F (ad (cY (i:=i) cN bN F F (ay hE) (by omega) (by rw[bE];omega)) (ad (dy (vs:=x.cl) bs F bN F F (Nat.succ_pos _) (ay hE) (ew hp)) (ak F (aR bN F (fun z1=>?_)))))))))))))))))
 refine ak F (a8 (vs:=x.cl) 0 bN F F F F ?_)
 refine ae (aB (ai (ad (aN bs F cI F F) (ad (aQ 0 eu F F F F) (ae (aG (ai (ad (aZ F F) (ad (aq (bt F) (decide_eq_false (by omega))) (ae (aL F (ai (ad (aZ F F) (ad (aq (bt F) (decide_eq_false (by omega))) ?_))))))))))))))
 refine ae (aL F (ai (ad (aZ F F) (ad (aq (bt F) (decide_eq_false (by omega))) (ae (aL F (ai (ad (aZ F F) (ad (aq (bt F) (decide_eq_false (by omega))) ?_)))))))))
 refine ae (aL F ?_)
 refine T.ds [oI z1 72 x.cl,oI ob 114 [(cW (aD cb) 0),(.slice lb ls.length lc),fv]] [(0,0),(1,0),(2,0),(3,0),(4,0),(5,0),(6,0),(7,0),(8,0),(9,0),(10,1),(11,0),(12,1),(13,1),(14,0),(15,0),(16,2)] (by exact Sub.k (.k .z)) ?_
 refine ao F (az F) (ao F (az F) (ao F (aK F) (ao F (aN e8 F fe F F) (ao F (aQ 1 d_ F F F F) (ao F (az F) (ao F (aK F) (ao F (aN e8 F mz F F) (ao F (aQ 1 tX F F F F) (ao F (az F) ?_)))))))))
 have mu:=fun(w1:World) (hI:Inv w ([oI z1 72 x.cl,oI ob 114 [(cW (aD cb) 0),(.slice lb ls.length lc),fv],am lb lc 118 7 (cj ls ks)]++(a_ 3 (dG ls ks)++fm 56 4 3 ls ks)) w1)=>(haveI:=di hI;T5 w1 hI.kw)
 refine fS F F (dA nD (cB.pure mu) F (fun z _=>⟨F,z⟩) ?_)
 clear mu
 rintro vr O' ⟨N,rfl,M,kM,rfl,rfl,hM,hO⟩
 refine⟨by exact Sub.d (.k (.k .z)),?_⟩
 have eM:=fD hM hB
 refine ao F (bG (cs:=[(.int .u8 0),(vI M.vars),(vI M.start),(.slice kM.nb M.next.length kM.nc),(.slice kM.fb M.ax.length kM.fc),nS,(.bool false)]) yM dN (by kernel_rfl)) ?_
 refine bo F F (bH (m:=1) (parts:=[(0,_)]) (cs:=[(.int .u8 0),(vI M.vars),(vI M.start),(.slice kM.nb M.next.length kM.nc),(.slice kM.fb M.ax.length kM.fc),nS,(.bool false)]) d_ dN (by decide) (by kernel_rfl) F (fun z2=>⟨by exact Sub.d (.d (.k (.k .z))),?_⟩))
 refine bo F F (bY 4 d_ d_ dN F F F F (by rw[cU lA]) (by decide) (Src.row (j:=0) F (by simp)) (by simp[dS]) (by omega) (by decide) (by decide) (fun z3 l7=>⟨by exact Sub.d (.d (.k (.k .z))),?_⟩))
 refine ao F (aK F) (ao F (aN e8 F fe F F) ?_)
 refine bq F F (a8 (vs:=[(.slice z3 (ls.length+1) l7)]) 3 fe F F F F ?_)
 refine bw ?_
 refine ai (ah F (ad (aK F) (ad (aN e8 F fe F F) (ad (aQ 3 d_ F F F F) (ad (bS d_ F) (ad (a7 (ez F F (by omega)) (v':=vN ls.length) (congrArg (Value.int .i64) (by omega))) (aj F (ae (aB (T.dJ 3 1 ?_))))))))))
 refine aJ (ah F (ak F (bM (v:=vN ls.length) bK aO F F F (fun z5=>?_))))
 refine ah F (ak F (bM (v:=vN ls.length) bK aO F F F (fun z6=>?_)))
 refine aj F (aj F (ae (aA (ap ?_))))
 refine cy (.slice (aD z5) 1 1) (.slice (aD z6) 1 1) Tryz.results73 F F ?_
 exact⟨[oI ob 114 [(cW (aD cb) 0),(.slice z3 ((ls++[(⟨0,minOf vs (gd t),[],false⟩:Lf)]).length) l7),fv],am z3 l7 118 7 (cj (ls++[(⟨0,minOf vs (gd t),[],false⟩:Lf)]) (ks++[(⟨kM,none,0⟩:LK)])),am (aD z5) 1 3 1 (aX [ls.length]),am (aD z6) 1 3 1 (aX [ls.length])]++(a_ 3 (dG (ls++[(⟨0,minOf vs (gd t),[],false⟩:Lf)]) (ks++[(⟨kM,none,0⟩:LK)]))++fm 56 4 3 (ls++[(⟨0,minOf vs (gd t),[],false⟩:Lf)]) (ks++[(⟨kM,none,0⟩:LK)])),by
   rw[qv lA,qw,sC lA,oV lA,List.length_append,←eM]
   exact oW [oI ob 114 [(cW (aD cb) 0),(.slice z3 (ls.length+1) l7),fv],am z3 l7 118 7 ((cj ls ks)++[(.int .u8 0),(vI M.vars),(vI M.start),(.slice kM.nb M.next.length kM.nc),(.slice kM.fb M.ax.length kM.fc),nS,(.bool false)]),am (aD z5) 1 3 1 [vN ls.length],am (aD z6) 1 3 1 [vN ls.length]] [am (aD z6) 1 3 1 [vN ls.length],am (aD z5) 1 3 1 [vN ls.length],am none 0 3 1 [],am (aD z2) 1 118 7 [(.int .u8 0),(vI M.vars),(vI M.start),(.slice kM.nb M.next.length kM.nc),(.slice kM.fb M.ax.length kM.fc),nS,(.bool false)],dI 56 4 3 M kM,oI z1 72 x.cl,oI ob 114 [(cW (aD cb) 0),(.slice z3 (ls.length+1) l7),fv],am z3 l7 118 7 ((cj ls ks)++[(.int .u8 0),(vI M.vars),(vI M.start),(.slice kM.nb M.next.length kM.nc),(.slice kM.fb M.ax.length kM.fc),nS,(.bool false)])] _ _ _ _ (by exact Sub.dr [am (aD z6) 1 3 1 [vN ls.length],am (aD z5) 1 3 1 [vN ls.length],am none 0 3 1 [],am (aD z2) 1 118 7 [(.int .u8 0),(vI M.vars),(vI M.start),(.slice kM.nb M.next.length kM.nc),(.slice kM.fb M.ax.length kM.fc),nS,(.bool false)],dI 56 4 3 M kM,oI z1 72 x.cl] _ (.dr [am (aD z6) 1 3 1 [vN ls.length],am (aD z5) 1 3 1 [vN ls.length],am none 0 3 1 [],am (aD z2) 1 118 7 [(.int .u8 0),(vI M.vars),(vI M.start),(.slice kM.nb M.next.length kM.nc),(.slice kM.fb M.ax.length kM.fc),nS,(.bool false)],dI 56 4 3 M kM,oI z1 72 x.cl] _ (.dr [am (aD z6) 1 3 1 [vN ls.length]] _ (.k (.k (.d (.k .z))))))),z3,l7,(ks++[(⟨kM,none,0⟩:LK)]),(aD z5),1,(aD z6),1,F,F,by simp[lA],hO⟩
theorem CS (w:World) [cG Tryz.prog w] (cb:Nat) (eb:Option Addr) (en ec vs B:Nat) (dz:Sl w (aD cb) [.slice eb en ec,vI (vs:Int),vI (B:Int)]) (eT:vs≤6) (gn:1≤B) (hB:B≤4096) (e:List dF) (hE:Sl w eb (bg e)) (iA:en=e.length) (i:Nat) (ob:Nat) (fv:Value) (a:Rx) (j:Nat) (hp:e[i]? =some ⟨9,0,0,(j:Int),0⟩) (T3: ∀ls,aH vs (Rx.ahead a) ls=⟨ls++[⟨9,minOf vs (ki (gd a) fun _=>true),[],false⟩],[ls.length],[ls.length]⟩) (T5: ∀(w1:World) [cG Tryz.prog w1],Inv w [] w1→cB Tryz.prog w1 (.iface 163 (.agg #[])) 72 [(cW (aD cb) 0),vN j] [] (qI vs B a) (¬iP vs a B)) (lb:Option Addr) (lc:Nat) (ls:List Lf) (ks:List LK) (lA:ks.length=ls.length) (hl:ls.length+(Rx.ahead a).lv≤64) (Gs:qu ls (Rx.ahead a)):
  cB Tryz.prog w (.iface 163 (.agg #[])) 73 [(.pointer (aD ob)),vN i] ([oI ob 114 [(cW (aD cb) 0),(.slice lb ls.length lc),fv],am lb lc 118 7 (cj ls ks)]++(a_ 3 (dG ls ks)++fm 56 4 3 ls ks)) (fun v O'=> ∃rS rT nO mK mL wj wk,v=.tuple #[(.slice mK (((aH vs (Rx.ahead a) ls).fi).length) mL),(.slice wj (((aH vs (Rx.ahead a) ls).la).length) wk)]∧O'=[oI ob 114 [(cW (aD cb) 0),(.slice rS (((aH vs (Rx.ahead a) ls).ls).length) rT),fv],am rS rT 118 7 (cj ((aH vs (Rx.ahead a) ls).ls) nO),am mK mL 3 1 (aX ((aH vs (Rx.ahead a) ls).fi)),am wj wk 3 1 (aX ((aH vs (Rx.ahead a) ls).la))]++(a_ 3 (dG ((aH vs (Rx.ahead a) ls).ls) nO)++fm 56 4 3 ((aH vs (Rx.ahead a) ls).ls) nO)∧nO.length=(aH vs (Rx.ahead a) ls).ls.length∧okB vs (Rx.ahead a) B) (¬okB vs (Rx.ahead a) B):=by
 refine cJ func73 F ntmps73 F ?_
 obtain⟨hi,_⟩:=gf hp
 simp only[T3]
 refine ai (aj F (aj F (ae (ai (ah F (ad (aK F) (ad (aN e8 F mz F F) (ad (aQ 0 tX F F F F) (ad (aK F) (ad (br iR F fJ F F (ay dz) (by first|omega|(simp;done)|(simp;omega)|(simp_all;done)|(simp_all;omega))) (ad (cd cN F F (ay dz) F) (ah F (ad (cY (i:=i) cN bN F F (ay hE) (by omega) (by rw[bE];omega)) (ad (dy (vs:=[v8 9,v8 0,v8 0,vN j,vI 0]) bs F bN F F (Nat.succ_pos _) (ay hE) (ew hp)) (ak F (aR bN F (fun z1=>?_)))))))))))))))))
 refine ak F (a8 (vs:=[v8 9,v8 0,v8 0,vN j,vI 0]) 0 bN F F F F ?_)
 refine ae (aB (ai (ad (aN bs F cI F F) (ad (aQ 0 eu F F F F) (ae (aG (ai (ad (aZ F F) (ad (aq (bt F) (decide_eq_false (by decide))) (ae (aL F (ai (ad (aZ F F) (ad (aq (bt F) (decide_eq_false (by decide))) ?_))))))))))))))
 refine ae (aL F (ai (ad (aZ F F) (ad (aq (bt F) (decide_eq_true (by decide))) (ae ?_)))))
 refine bj F ?_
 refine T.ds [oI z1 72 [v8 9,v8 0,v8 0,vN j,vI 0],oI ob 114 [(cW (aD cb) 0),(.slice lb ls.length lc),fv]] [(0,0),(1,0),(2,0),(3,0),(4,0),(5,0),(6,0),(7,0),(8,0),(9,0),(10,0),(11,0),(12,0),(13,0),(14,0),(15,0),(16,0),(18,0),(19,0),(20,0),(21,0),(17,1),(22,1),(23,1),(24,0),(25,1),(26,1),(27,0),(28,0),(29,2)] (by exact Sub.k (.k .z)) ?_
 refine ao F (az F) (ao F (az F) (ao F (aK F) (ao F (aN e8 F fe F F) (ao F (aQ 1 d_ F F F F) (ao F (aN bs F cI F F) (ao F (aQ 0 eu F F F F) (ao F (az F) (ao F (aK F) (ao F (aN e8 F mz F F) (ao F (aQ 1 tX F F F F) (ao F (az F) (ao F (aK F) (ao F (aN e8 F mz F F) (ao F (aQ 1 tX F F F F) (ao F (aN bs F aO F F) (ao F (aQ 0 cS F F F F) (ao F (az F) (ao F (aK F) (ao F (aN e8 F mz F F) (ao F (aQ 1 tX F F F F) ?_))))))))))))))))))))
 have AZ:=fun(w1:World) (hI:Inv w ([oI z1 72 [v8 9,v8 0,v8 0,vN j,vI 0],oI ob 114 [(cW (aD cb) 0),(.slice lb ls.length lc),fv],am lb lc 118 7 (cj ls ks)]++(a_ 3 (dG ls ks)++fm 56 4 3 ls ks)) w1)=>(haveI:=di hI;T5 w1 hI.kw)
 refine fS F F (dA nD (cB.pure AZ) F (fun z _=>⟨F,fun h9=>z h9.1⟩) ?_)
 clear AZ
 rintro vr O' ⟨N,rfl,MA,kA,rfl,rfl,oM,hO⟩
 refine⟨by exact Sub.d (.k (.k .z)),?_⟩
 have xz:=fD oM hB
 have NF:=fun(w1:World) (hI:Inv w ([dI 56 4 3 MA kA,oI z1 72 [v8 9,v8 0,v8 0,vN j,vI 0],oI ob 114 [(cW (aD cb) 0),(.slice lb ls.length lc),fv],am lb lc 118 7 (cj ls ks)]++(a_ 3 (dG ls ks)++fm 56 4 3 ls ks)) w1)=>(haveI:=di hI;Kt w1 cb eb en ec vs B (hI.sl dz) eT)
 refine bo F F (aP CI (aI NF) F ?_)
 clear NF
 rintro vr O' ⟨N,rfl,kS,rfl,rfl⟩
 refine⟨by exact Sub.d (.d (.k (.k .z))),?_⟩
 have NG:=fun(w1:World) (hI:Inv w ([dI 56 4 3 (eo (vs:Int) true) kS,dI 56 4 3 MA kA,oI z1 72 [v8 9,v8 0,v8 0,vN j,vI 0],oI ob 114 [(cW (aD cb) 0),(.slice lb ls.length lc),fv],am lb lc 118 7 (cj ls ks)]++(a_ 3 (dG ls ks)++fm 56 4 3 ls ks)) w1)=>(haveI:=di hI;Pw w1 cb eb en ec vs B (hI.sl dz) eT gn hB MA kA (hI.at (k:=kA) (mG 1 F)) oM.valid oM.vars (eo (vs:Int) true) kS (hI.at (k:=kS) (mG 0 F)) (eR eT).valid (by rw[oM.vars];rfl))
 refine fS F F (dA CE (cB.pure NG) F (fun z _=>⟨F,fun h9=>z (by rw[xz];exact h9.2)⟩) ?_)
 clear NG
 rintro vr O' ⟨N,rfl,M,kM,rfl,rfl,PK,PL⟩
 refine⟨by exact Sub.d (.d (.d (.k (.k .z)))),?_⟩
 have eM:M=minOf vs (ki (gd a) fun _=>true):=fD (PK.to fun w9 h9=>nk (fun u hu=>oM.gq u hu) (fun u hu=>(eR eT).gq u hu) h9) hB
 refine ao F (bG (cs:=[v8 9,(vI M.vars),(vI M.start),(.slice kM.nb M.next.length kM.nc),(.slice kM.fb M.ax.length kM.fc),nS,(.bool false)]) yM dN (by kernel_rfl)) ?_
 refine bo F F (bH (m:=1) (parts:=[(0,_)]) (cs:=[v8 9,(vI M.vars),(vI M.start),(.slice kM.nb M.next.length kM.nc),(.slice kM.fb M.ax.length kM.fc),nS,(.bool false)]) d_ dN (by decide) (by kernel_rfl) F (fun z2=>⟨by exact Sub.d (.d (.d (.d (.k (.k .z))))),?_⟩))
 refine bo F F (bY 6 d_ d_ dN F F F F (by rw[cU lA]) (by decide) (Src.row (j:=0) F (by simp)) (by simp[dS]) (by omega) (by decide) (by decide) (fun z3 l7=>⟨by exact Sub.d (.d (.d (.d (.k (.k .z))))),?_⟩))
 refine ao F (aK F) (ao F (aN e8 F fe F F) ?_)
 refine bq F F (a8 (vs:=[(.slice z3 (ls.length+1) l7)]) 5 fe F F F F ?_)
 refine bw ?_
 refine ai (ah F (ad (aK F) (ad (aN e8 F fe F F) (ad (aQ 5 d_ F F F F) (ad (bS d_ F) (ad (a7 (ez F F (by omega)) (v':=vN ls.length) (congrArg (Value.int .i64) (by omega))) (aj F (ae (aB (T.dJ 3 1 ?_))))))))))
 refine aJ (ah F (ak F (bM (v:=vN ls.length) bK aO F F F (fun z5=>?_))))
 refine ah F (ak F (bM (v:=vN ls.length) bK aO F F F (fun z6=>?_)))
 refine aj F (aj F (ae (aA (ap ?_))))
 refine cy (.slice (aD z5) 1 1) (.slice (aD z6) 1 1) Tryz.results73 F F ?_
 exact⟨[oI ob 114 [(cW (aD cb) 0),(.slice z3 ((ls++[(⟨9,minOf vs (ki (gd a) fun _=>true),[],false⟩:Lf)]).length) l7),fv],am z3 l7 118 7 (cj (ls++[(⟨9,minOf vs (ki (gd a) fun _=>true),[],false⟩:Lf)]) (ks++[(⟨kM,none,0⟩:LK)])),am (aD z5) 1 3 1 (aX [ls.length]),am (aD z6) 1 3 1 (aX [ls.length])]++(a_ 3 (dG (ls++[(⟨9,minOf vs (ki (gd a) fun _=>true),[],false⟩:Lf)]) (ks++[(⟨kM,none,0⟩:LK)]))++fm 56 4 3 (ls++[(⟨9,minOf vs (ki (gd a) fun _=>true),[],false⟩:Lf)]) (ks++[(⟨kM,none,0⟩:LK)])),by
   rw[qv lA,qw,sC lA,oV lA,List.length_append,←eM]
   exact oW [oI ob 114 [(cW (aD cb) 0),(.slice z3 (ls.length+1) l7),fv],am z3 l7 118 7 ((cj ls ks)++[v8 9,(vI M.vars),(vI M.start),(.slice kM.nb M.next.length kM.nc),(.slice kM.fb M.ax.length kM.fc),nS,(.bool false)]),am (aD z5) 1 3 1 [vN ls.length],am (aD z6) 1 3 1 [vN ls.length]] [am (aD z6) 1 3 1 [vN ls.length],am (aD z5) 1 3 1 [vN ls.length],am none 0 3 1 [],am (aD z2) 1 118 7 [v8 9,(vI M.vars),(vI M.start),(.slice kM.nb M.next.length kM.nc),(.slice kM.fb M.ax.length kM.fc),nS,(.bool false)],dI 56 4 3 M kM,dI 56 4 3 (eo (vs:Int) true) kS,dI 56 4 3 MA kA,oI z1 72 [v8 9,v8 0,v8 0,vN j,vI 0],oI ob 114 [(cW (aD cb) 0),(.slice z3 (ls.length+1) l7),fv],am z3 l7 118 7 ((cj ls ks)++[v8 9,(vI M.vars),(vI M.start),(.slice kM.nb M.next.length kM.nc),(.slice kM.fb M.ax.length kM.fc),nS,(.bool false)])] _ _ _ _ (by exact Sub.dr [am (aD z6) 1 3 1 [vN ls.length],am (aD z5) 1 3 1 [vN ls.length],am none 0 3 1 [],am (aD z2) 1 118 7 [v8 9,(vI M.vars),(vI M.start),(.slice kM.nb M.next.length kM.nc),(.slice kM.fb M.ax.length kM.fc),nS,(.bool false)],dI 56 4 3 M kM,dI 56 4 3 (eo (vs:Int) true) kS,dI 56 4 3 MA kA,oI z1 72 [v8 9,v8 0,v8 0,vN j,vI 0]] _ (.dr [am (aD z6) 1 3 1 [vN ls.length],am (aD z5) 1 3 1 [vN ls.length],am none 0 3 1 [],am (aD z2) 1 118 7 [v8 9,(vI M.vars),(vI M.start),(.slice kM.nb M.next.length kM.nc),(.slice kM.fb M.ax.length kM.fc),nS,(.bool false)],dI 56 4 3 M kM,dI 56 4 3 (eo (vs:Int) true) kS,dI 56 4 3 MA kA,oI z1 72 [v8 9,v8 0,v8 0,vN j,vI 0]] _ (.dr [am (aD z6) 1 3 1 [vN ls.length]] _ (.k (.k (.d (.k .z))))))),z3,l7,(ks++[(⟨kM,none,0⟩:LK)]),(aD z5),1,(aD z6),1,F,F,by simp[lA],⟨hO,by rw[←xz];exact PL⟩⟩
theorem IT (w:World) [cG Tryz.prog w] (cb:Nat) (eb:Option Addr) (en ec vs B:Nat) (dz:Sl w (aD cb) [.slice eb en ec,vI (vs:Int),vI (B:Int)]) (eT:vs≤6) (gn:1≤B) (hB:B≤4096) (e:List dF) (hE:Sl w eb (bg e)) (iA:en=e.length) (i:Nat) (ob:Nat) (fv:Value) (a b:Rx) (j k:Nat) (hp:e[i]? =some ⟨4,0,0,(j:Int),(k:Int)⟩) (hA:lr w cb vs B ob fv a j) (hB:lr w cb vs B ob fv b k) (lb:Option Addr) (lc:Nat) (ls:List Lf) (ks:List LK) (lA:ks.length=ls.length) (hl:ls.length+(Rx.jl a b).lv≤64) (Gs:qu ls (Rx.jl a b)):
  cB Tryz.prog w (.iface 163 (.agg #[])) 73 [(.pointer (aD ob)),vN i] ([oI ob 114 [(cW (aD cb) 0),(.slice lb ls.length lc),fv],am lb lc 118 7 (cj ls ks)]++(a_ 3 (dG ls ks)++fm 56 4 3 ls ks)) (fun v O'=> ∃rS rT nO mK mL wj wk,v=.tuple #[(.slice mK (((aH vs (Rx.jl a b) ls).fi).length) mL),(.slice wj (((aH vs (Rx.jl a b) ls).la).length) wk)]∧O'=[oI ob 114 [(cW (aD cb) 0),(.slice rS (((aH vs (Rx.jl a b) ls).ls).length) rT),fv],am rS rT 118 7 (cj ((aH vs (Rx.jl a b) ls).ls) nO),am mK mL 3 1 (aX ((aH vs (Rx.jl a b) ls).fi)),am wj wk 3 1 (aX ((aH vs (Rx.jl a b) ls).la))]++(a_ 3 (dG ((aH vs (Rx.jl a b) ls).ls) nO)++fm 56 4 3 ((aH vs (Rx.jl a b) ls).ls) nO)∧nO.length=(aH vs (Rx.jl a b) ls).ls.length∧okB vs (Rx.jl a b) B) (¬okB vs (Rx.jl a b) B):=by
 refine cJ func73 F ntmps73 F ?_
 obtain⟨hi,_⟩:=gf hp
 have Qm:=eU vs a ls
 have W6:=eU vs b (aH vs a ls).ls
 have T6:=dR vs a ls
 have T7:=dR vs b (aH vs a ls).ls
 have W7:a.lv+b.lv≤64:=by simp only[Rx.lv]at hl;omega
 simp only[Rx.lv]at hl
 refine ai (aj F (aj F (ae (ai (ah F (ad (aK F) (ad (aN e8 F mz F F) (ad (aQ 0 tX F F F F) (ad (aK F) (ad (br iR F fJ F F (ay dz) (by first|omega|(simp;done)|(simp;omega)|(simp_all;done)|(simp_all;omega))) (ad (cd cN F F (ay dz) F) (ah F (ad (cY (i:=i) cN bN F F (ay hE) (by omega) (by rw[bE];omega)) (ad (dy (vs:=[v8 4,v8 0,v8 0,vN j,vN k]) bs F bN F F (Nat.succ_pos _) (ay hE) (ew hp)) (ak F (aR bN F (fun z1=>?_)))))))))))))))))
 refine ak F (a8 (vs:=[v8 4,v8 0,v8 0,vN j,vN k]) 0 bN F F F F ?_)
 refine ae (aB (ai (ad (aN bs F cI F F) (ad (aQ 0 eu F F F F) (ae (aG (ai (ad (aZ F F) (ad (aq (bt F) (decide_eq_true (by decide))) (ae ?_))))))))))
 refine bj F ?_
 refine ai (ah F (ad (aN bs F aO F F) (ad (aQ 0 cS F F F F) ?_)))
 let eQ:Lx.Item:=oI z1 72 [v8 4,v8 0,v8 0,vN j,vN k]
 have Il:=(hA.frame [eQ] (O:=[eQ,oI ob 114 [(cW (aD cb) 0),(.slice lb ls.length lc),fv],am lb lc 118 7 (cj ls ks)]) lb lc ls ks lA (by first|omega|(rw[dR];omega)) (qu.left Gs) (by exact Sub.dr [eQ] _ (.dr [eQ] _ (.k .z))))
 refine de F (dA A3 Il F (fun z _=>⟨F,fun h9=>z h9.1⟩) ?_)
 clear Il
 rintro vr O' ⟨Qn,Qo,T8,Km,Kn,NH,NI,rfl,rfl,W8,FL⟩
 refine ah F (ad (aV (vs:=_) F F) (ad (aV (vs:=_) F F) (aj F (aj F (ae (ai (ah F (ad (aN bs F aO F F) (ad (aQ 4 cS F F F F) ?_)))))))))
 let iL:Lx.Item:=am Km Kn 3 1 (aX ((aH vs a ls).fi))
 let pN:Lx.Item:=am NH NI 3 1 (aX ((aH vs a ls).la))
 have Iw:=(hB.frame [iL,pN,eQ] (O:=[oI ob 114 [(cW (aD cb) 0),(.slice Qn (((aH vs a ls).ls).length) Qo),fv],am Qn Qo 118 7 (cj ((aH vs a ls).ls) T8),iL,pN,eQ]) Qn Qo ((aH vs a ls).ls) T8 W8 (by first|omega|(rw[dR];omega)) (qu.right Gs) (by exact Sub.rf))
 refine de F (dA A3 Iw F (fun z _=>⟨F,fun h9=>z h9.2⟩) ?_)
 clear Iw
 rintro vr O' ⟨xE,xF,L0,T9,T_,NJ,NK,rfl,rfl,Gq,FM⟩
 refine ah F (ad (aV (vs:=_) F F) (ad (aV (vs:=_) F F) (aj F (aj F (ae (aB (ai (ah F (ad (bS bK F) (ah F (ae (aG ?_))))))))))))
 let Al:Lx.Item:=am T9 T_ 3 1 (aX ((aH vs b ((aH vs a ls).ls)).fi))
 let sj:Lx.Item:=am NJ NK 3 1 (aX ((aH vs b ((aH vs a ls).ls)).la))
 refine ck (O':=[oI ob 114 [(cW (aD cb) 0),(.slice xE (((aH vs b ((aH vs a ls).ls)).ls).length) xF),fv],am xE xF 118 7 (cj ((aH vs b ((aH vs a ls).ls)).ls) L0),Al,sj,iL,pN,eQ]++(a_ 3 (dG ((aH vs b ((aH vs a ls).ls)).ls) L0)++fm 56 4 3 ((aH vs b ((aH vs a ls).ls)).ls) L0)) (by exact Sub.rf) ?_
 refine cM (fun(i9:Nat) ρ O=> ∃(l3:List Lf) (k3:List LK),O=([oI ob 114 [(cW (aD cb) 0),(.slice xE l3.length xF),fv],am xE xF 118 7 (cj l3 k3),Al,sj,iL,pN,eQ]++(a_ 3 (dG l3 k3)++fm 56 4 3 l3 k3))∧i9≤(aH vs a ls).la.length∧l3=ko ((aH vs b ((aH vs a ls).ls)).ls) ((aH vs a ls).la.take i9) ((aH vs b ((aH vs a ls).ls)).fi)∧k3.length=l3.length∧cw [(0,(.pointer (aD ob))),(1,vN i),(4,nS),(5,nS),(6,(.pointer (aD z1))),(7,(.slice Km ((aH vs a ls).fi.length) Kn)),(8,(.slice NH ((aH vs a ls).la.length) NI)),(9,(.slice T9 ((aH vs b ((aH vs a ls).ls)).fi.length) T_)),(10,(.slice NJ ((aH vs b ((aH vs a ls).ls)).la.length) NK)),(46,.bool true),(62,(.slice NH ((aH vs a ls).la.length) NI)),(63,vI ((aH vs a ls).la.length:Int)),(64,vN i9)] ρ) (fun i9=>(aH vs a ls).la.length-i9) 0 ?_ ?_
 ·exact⟨(aH vs b ((aH vs a ls).ls)).ls,L0,F,Nat.zero_le _,F,Gq,(.of F)⟩
 rintro i9 ρ O ⟨l3,k3,rfl,GW,Kk,rm,hH⟩
 obtain⟨fE,rfl⟩:=hH.elim
 clear hH
 refine ai (ad (bT F F) (ae (aB (aC F (fun hc=>?_) (fun hc=>?_)))))
 ·have A4:i9<(aH vs a ls).la.length:=by omega
  obtain⟨kk,CT⟩: ∃k,k=(aH vs a ls).la[i9]:=⟨_,F⟩
  have hn3:l3.length=(aH vs b ((aH vs a ls).ls)).ls.length:=by rw[Kk,sD]
  have xD:kk<l3.length:=by
   have:=(Qm.2.1 _ (List.getElem_mem A4)).2
   rw[hn3,T7,T6];rw[CT];omega
  have aa8:(lf l3 kk).fo.length≤100000:=by
   subst Kk
   exact CU Gs (by rw[List.length_take];have:=Qm.2.2.2;omega) xD
  refine av (aB (aG (ai (ad (cV (i:=i9) bK aO F F (cP (mG 5 F)) A4 (by rw[List.length_map];exact A4)) (ad (cd cS F F (cP (mG 5 F)) (show(aX (aH vs a ls).la)[i9]? =some (vN kk) by rw[CT];exact fO A4)) (aj F (ae ?_)))))))
  let jj:Lx.Item:=oI ob 114 [(cW (aD cb) 0),(.slice xE l3.length xF),fv]
  let il:Lx.Item:=oI z1 72 [v8 4,v8 0,v8 0,vN j,vN k]
  let mM:Lx.Item:=am Km Kn 3 1 (aX ((aH vs a ls).fi))
  let pj:Lx.Item:=am NH NI 3 1 (aX ((aH vs a ls).la))
  let yj:Lx.Item:=am T9 T_ 3 1 (aX ((aH vs b ((aH vs a ls).ls)).fi))
  let ox:Lx.Item:=am NJ NK 3 1 (aX ((aH vs b ((aH vs a ls).ls)).la))
  refine ck (O':=[am ((lk k3 kk).b) ((lk k3 kk).c) 3 1 (aX (lf l3 kk).fo),jj,am xE xF 118 7 (cj l3 k3),yj,ox,mM,pj,il]++(a_ 3 ((dG l3 k3).eraseIdx kk)++fm 56 4 3 l3 k3)) (by
   have h9:=IU (E:=3) (A5 rm xD) [oI ob 114 [(cW (aD cb) 0),(.slice xE l3.length xF),fv],am xE xF 118 7 (cj l3 k3),am T9 T_ 3 1 (aX ((aH vs b ((aH vs a ls).ls)).fi)),am NJ NK 3 1 (aX ((aH vs b ((aH vs a ls).ls)).la)),am Km Kn 3 1 (aX ((aH vs a ls).fi)),am NH NI 3 1 (aX ((aH vs a ls).la)),oI z1 72 [v8 4,v8 0,v8 0,vN j,vN k]] (fm 56 4 3 l3 k3)
   rw[show Rec.qG 3 ⟨(lk k3 kk).b,(lk k3 kk).c,(lf l3 kk).fo.map fun y:Nat=>(y:Int)⟩=am ((lk k3 kk).b) ((lk k3 kk).c) 3 1 (aX (lf l3 kk).fo)from congrArg (am _ _ 3 1) (eS _)]at h9
   exact h9) ?_
  refine T.ds [jj,am xE xF 118 7 (cj l3 k3),il] [(0,0),(1,0),(2,0),(3,0),(4,0),(5,0),(6,0),(7,0),(8,0),(9,0),(10,0),(11,0),(12,0),(13,0),(14,1),(15,0),(16,0),(17,2)] (by exact Sub.d (.k (.k (.d (.d (.d (.d (.k .z)))))))) ?_
  refine ao F (az F) (ao F (aK F) (ao F (aN e8 F fe F F) (ao F (aQ 0 d_ F F F F) (ao F (az F) (ao F (az F) (ao F (aK F) (ao F (aN e8 F fe F F) (ao F (aQ 0 d_ F F F F) (ao F (az F) (ao F (cY (i:=kk) d_ dN F F (cP (mG 1 F)) xD (by rw[cU rm];omega)) (ao F (br fX F bV F F (cP (mG 1 F)) (by rw[cU rm];omega)) (ao F (cd bK F F (cP (mG 1 F)) (oP rm xD 5 F F)) (ao F (az F) ?_)))))))))))))
  refine bo F F (bY 0 bK bK aO F F F F (by rw[List.length_map];omega) (by decide) (Src.row (j:=3) F (by rw[List.length_map];omega)) (by simp[dS]) (by omega) (by decide) (by decide) (fun z2 sk=>⟨by exact Sub.d (.k (.k (.d (.d (.d (.d (.k .z))))))),?_⟩))
  refine ao F (cY (i:=kk) d_ dN F F (cP (mG 1 F)) xD (by rw[cU rm];omega)) (ao F (br fX F bV F F (cP (mG 1 F)) (by rw[cU rm];omega)) ?_)
  let Cr:Value:=(.slice z2 (((lf l3 kk).fo.length)+((aH vs b ((aH vs a ls).ls)).fi.length)) sk)
  refine bq F F (lB (j:=(kk*7+5)) (v:=Cr) (vs:=[Cr]) (cs:=cj l3 k3) 2 bV F F F F F (by simp) F (by rw[cU rm];simp;omega) ?_)
  refine dL (O':=([am z2 sk 3 1 ((aX (lf l3 kk).fo)++(aX ((aH vs b ((aH vs a ls).ls)).fi))),jj,am xE xF 118 7 (cj (l3.set kk {lf l3 kk with fo:=(lf l3 kk).fo++(aH vs b ((aH vs a ls).ls)).fi}) (k3.set kk {lk k3 kk with b:=z2,c:=sk})),yj,ox,mM,pj,il]++(a_ 3 ((dG l3 k3).eraseIdx kk)++fm 56 4 3 l3 k3))) (by rw[show dK (cj l3 k3) (kk*7+5) [(.slice z2 (((lf l3 kk).fo.length)+((aH vs b ((aH vs a ls).ls)).fi.length)) sk)]=cj (l3.set kk {lf l3 kk with fo:=(lf l3 kk).fo++(aH vs b ((aH vs a ls).ls)).fi}) (k3.set kk {lk k3 kk with b:=z2,c:=sk})from(by rw[CV rm xD,List.length_append];simp[dK])];exact bn (List.Sublist.refl _)) ?_
  refine bw ?_
  refine aJ (ad (cx (a:=i9) (b:=1) F F (by omega)) (ah F (ae ?_)))
  exact⟨i9+1,by omega,[oI ob 114 [(cW (aD cb) 0),(.slice xE ((l3.set kk {lf l3 kk with fo:=(lf l3 kk).fo++(aH vs b ((aH vs a ls).ls)).fi}).length) xF),fv],am xE xF 118 7 (cj (l3.set kk {lf l3 kk with fo:=(lf l3 kk).fo++(aH vs b ((aH vs a ls).ls)).fi}) (k3.set kk {lk k3 kk with b:=z2,c:=sk})),yj,ox,mM,pj,il]++(a_ 3 (dG (l3.set kk {lf l3 kk with fo:=(lf l3 kk).fo++(aH vs b ((aH vs a ls).ls)).fi}) (k3.set kk {lk k3 kk with b:=z2,c:=sk}))++fm 56 4 3 (l3.set kk {lf l3 kk with fo:=(lf l3 kk).fo++(aH vs b ((aH vs a ls).ls)).fi}) (k3.set kk {lk k3 kk with b:=z2,c:=sk})),by
   rw[FT rm xD,IV rm xD,List.length_set]
   refine Sub.trans (L1 (by rw[FU rm];exact xD) [jj,am xE xF 118 7 (cj (l3.set kk {lf l3 kk with fo:=(lf l3 kk).fo++(aH vs b ((aH vs a ls).ls)).fi}) (k3.set kk {lk k3 kk with b:=z2,c:=sk})),yj,ox,mM,pj,il] (fm 56 4 3 l3 k3) ⟨z2,sk,((lf l3 kk).fo++(aH vs b ((aH vs a ls).ls)).fi).map fun y:Nat=>(y:Int)⟩) ?_
   rw[show Rec.qG 3 ⟨z2,sk,((lf l3 kk).fo++(aH vs b ((aH vs a ls).ls)).fi).map fun y:Nat=>(y:Int)⟩=am z2 sk 3 1 ((aX (lf l3 kk).fo)++(aX ((aH vs b ((aH vs a ls).ls)).fi)))from congrArg (am _ _ 3 1) ((eS _).trans List.map_append)]
   exact(by exact Sub.rf),(l3.set kk {lf l3 kk with fo:=(lf l3 kk).fo++(aH vs b ((aH vs a ls).ls)).fi}),(k3.set kk {lk k3 kk with b:=z2,c:=sk}),F,by omega,by rw[CW A4,←CT,←Kk],by rw[List.length_set,List.length_set];exact rm,(.of F)⟩
 have Zc: ¬i9<(aH vs a ls).la.length:=by omega
 refine bJ ?_
 refine ai (ah F (ah F (aj F (aj F (ae (aA (ap ?_)))))))
 refine cy (.slice Km ((aH vs a ls).fi.length) Kn) (.slice NJ ((aH vs b ((aH vs a ls).ls)).la.length) NK) Tryz.results73 F F ?_
 have e3:l3=(aH vs (Rx.jl a b) ls).ls:=by rw[Kk,List.take_of_length_le (by omega)];rfl
 let qk:Lx.Item:=am NJ NK 3 1 (aX ((aH vs b ((aH vs a ls).ls)).la))
 exact⟨[oI ob 114 [(cW (aD cb) 0),(.slice xE l3.length xF),fv],am xE xF 118 7 (cj l3 k3),am Km Kn 3 1 (aX ((aH vs a ls).fi)),qk]++(a_ 3 (dG l3 k3)++fm 56 4 3 l3 k3),(by exact Sub.k (.k (.d (.dr [qk] _ (.k (.d (.d .rf))))))),xE,xF,k3,Km,Kn,NJ,NK,F,by rw[←e3];rfl,by rw[←e3];exact rm,FL,FM⟩
structure Qp (cb:Nat) (eb:Option Addr) (en ec vs B:Nat) (e:List dF):Prop where
 pl:PM cb eb en ec vs B e
 j5: ∀(w:World) [cG Tryz.prog w],vs≤6→1≤B→B≤4096→Sl w (aD cb) [.slice eb en ec,vI (vs:Int),vI (B:Int)]→Sl w eb (bg e)→ ∀(ob:Nat) (fv:Value) (i:Nat) (a b:Rx) (j k:Nat),e[i]? =some ⟨5,0,0,(j:Int),(k:Int)⟩→lr w cb vs B ob fv a j→lr w cb vs B ob fv b k→lr w cb vs B ob fv (.j5 a b) i
 behind: ∀(w:World) [cG Tryz.prog w],vs≤6→1≤B→B≤4096→Sl w (aD cb) [.slice eb en ec,vI (vs:Int),vI (B:Int)]→Sl w eb (bg e)→ ∀(ob:Nat) (fv:Value) (i:Nat) (a:Rx) (j:Nat),e[i]? =some ⟨10,0,0,(j:Int),0⟩→(∀(w1:World) [cG Tryz.prog w1],Inv w [] w1→cB Tryz.prog w1 (.iface 163 (.agg #[])) 72 [(cW (aD cb) 0),vN j] [] (qI vs B a) (¬iP vs a B))→lr w cb vs B ob fv (.behind a) i
theorem rl {cb:Nat} {eb:Option Addr} {en ec vs B:Nat} {e:List dF} (h:CF e=true):Qp cb eb en ec vs B e:=
 ⟨yF h,fun _ _ _ _ _ _ _ _ _ i _ _ _ _ hp=>absurd F (kQ h hp).2.1,fun _ _ _ _ _ _ _ _ _ i _ _ hp=>absurd F (kQ h hp).2.2.2.2⟩
theorem vC {cb:Nat} {eb:Option Addr} {en ec vs B:Nat} {e:List dF} (yN:Qp cb eb en ec vs B e) (eT:vs≤6) (gn:1≤B) (hB:B≤4096) (iA:en=e.length) (ob:Nat) (fv:Value): ∀(t:Rx) (hw:t.wf=true) (i:Nat),BW e t i→ ∀(w:World) [cG Tryz.prog w],Sl w (aD cb) [.slice eb en ec,vI (vs:Int),vI (B:Int)]→Sl w eb (bg e)→lr w cb vs B ob fv t i
 | .none,hw,i,hh,w,_,dz,hE=>kR w cb eb en ec vs B dz eT gn hB e hE iA i ob fv .none ⟨1,0,0,0,0⟩ hh (by simp) (by simp) (by simp) (by simp) F (fun _=>rfl) F (fun w1 _ hI=>ig yN.pl eT gn hB iA .none hw _ hh w1 (hI.sl dz) (hI.sl hE))
 | .empty,hw,i,hh,w,_,dz,hE=>kR w cb eb en ec vs B dz eT gn hB e hE iA i ob fv .empty ⟨2,0,0,0,0⟩ hh (by simp) (by simp) (by simp) (by simp) F (fun _=>rfl) F (fun w1 _ hI=>ig yN.pl eT gn hB iA .empty hw _ hh w1 (hI.sl dz) (hI.sl hE))
 | .letter p n,hw,i,hh,w,_,dz,hE=>kR w cb eb en ec vs B dz eT gn hB e hE iA i ob fv (.letter p n) ⟨3,p,n,0,0⟩ hh.1 (by simp) (by simp) (by simp) (by simp) F (fun _=>rfl) F (fun w1 _ hI=>ig yN.pl eT gn hB iA (.letter p n) hw _ hh w1 (hI.sl dz) (hI.sl hE))
 | .and a b,hw,i,hh,w,_,dz,hE=>by
  obtain⟨j,k,h,ha,hb⟩:=id hh
  exact kR w cb eb en ec vs B dz eT gn hB e hE iA i ob fv (.and a b) ⟨6,0,0,(j:Int),(k:Int)⟩ h (by simp) (by simp) (by simp) (by simp) F (fun _=>rfl) F (fun w1 _ hI=>ig yN.pl eT gn hB iA (.and a b) hw _ hh w1 (hI.sl dz) (hI.sl hE))
 | .not a,hw,i,hh,w,_,dz,hE=>by
  obtain⟨j,h,ha⟩:=id hh
  exact kR w cb eb en ec vs B dz eT gn hB e hE iA i ob fv (.not a) ⟨7,0,0,(j:Int),0⟩ h (by simp) (by simp) (by simp) (by simp) F (fun _=>rfl) F (fun w1 _ hI=>ig yN.pl eT gn hB iA (.not a) hw _ hh w1 (hI.sl dz) (hI.sl hE))
 | .star a,hw,i,hh,w,_,dz,hE=>by
  obtain⟨j,h,ha⟩:=id hh
  exact kR w cb eb en ec vs B dz eT gn hB e hE iA i ob fv (.star a) ⟨8,0,0,(j:Int),0⟩ h (by simp) (by simp) (by simp) (by simp) F (fun _=>rfl) F (fun w1 _ hI=>ig yN.pl eT gn hB iA (.star a) hw _ hh w1 (hI.sl dz) (hI.sl hE))
 | .jl a b,hw,i,⟨j,k,h,ha,hb⟩,w,_,dz,hE=>IT w cb eb en ec vs B dz eT gn hB e hE iA i ob fv a b j k h (vC yN eT gn hB iA ob fv a (by simp only[Rx.wf,Bool.and_eq_true]at hw;exact hw.1) _ ha w dz hE) (vC yN eT gn hB iA ob fv b (by simp only[Rx.wf,Bool.and_eq_true]at hw;exact hw.2) _ hb w dz hE)
 | .j5 a b,hw,i,⟨j,k,h,ha,hb⟩,w,_,dz,hE=>yN.j5 w eT gn hB dz hE ob fv i a b j k h (vC yN eT gn hB iA ob fv a (by simp only[Rx.wf,Bool.and_eq_true]at hw;exact hw.1) _ ha w dz hE) (vC yN eT gn hB iA ob fv b (by simp only[Rx.wf,Bool.and_eq_true]at hw;exact hw.2) _ hb w dz hE)
 | .ahead a,hw,i,⟨j,h,ha⟩,w,_,dz,hE=>CS w cb eb en ec vs B dz eT gn hB e hE iA i ob fv a j h (fun _=>rfl) (fun w1 _ hI=>ig yN.pl eT gn hB iA a hw _ ha w1 (hI.sl dz) (hI.sl hE))
 | .behind a,hw,i,⟨j,h,ha⟩,w,_,dz,hE=>yN.behind w eT gn hB dz hE ob fv i a j h (fun w1 _ hI=>ig yN.pl eT gn hB iA a hw _ ha w1 (hI.sl dz) (hI.sl hE))
end Go.Proofs.YtgdbfideeeegmaaGreatDoor

namespace Go.Proofs.YtgdbfideeeegmaaGreatDoor
open Go.Lx Go.RowKit _root_.Go.Proofs.Tryz
theorem Cx (w:World) [cG Tryz.prog w] (cb:Nat) (eb:Option Addr) (en ec vs B L:Nat) (dz:Sl w (aD cb) [.slice eb en ec,vI (vs:Int),vI (B:Int)]) (eT:vs≤6) (hL:2^vs=L) (gn:1≤B) (hB:B≤4096)
  (tr:Key→Nat→Key) (fin:Key→Bool) (start:Key) (Rp:Key→SR→Prop) (r0:SR) (fk fn ff:Value) (BQ:Rp start r0) (Np:r0.ik=[]) (qT: ∀k r,Rp k r→dS r.a=true∧dS r.b=true)
  (vh: ∀w1 k r,Inv w [] w1→Rp k r→(∀it∈r.ik,it.P w1)→dn Tryz.prog w1 fk [(.agg #[r.a,r.b])] [] (fun v O'=>v=str k∧O'=[]))
  (dT: ∀w1 k r x,Inv w [] w1→Rp k r→(∀it∈r.ik,it.P w1)→x<L→dn Tryz.prog w1 fn [(.agg #[r.a,r.b]),.int .u8 (x:Int)] [] (fun v N=> ∃r',v=(.agg #[r'.a,r'.b])∧N=r'.ik∧Rp (tr k x) r'))
  (wC: ∀w1 k r,Inv w [] w1→Rp k r→(∀it∈r.ik,it.P w1)→dn Tryz.prog w1 ff [(.agg #[r.a,r.b])] [] (fun v O'=>v=.bool (fin k)∧O'=[])):
  cB Tryz.prog w (.iface 163 (.agg #[])) 74 [(cW (aD cb) 0),(.agg #[r0.a,r0.b]),fk,fn,ff] [] (fun v N=> ∃M k',v=dV M k'∧N=[dI 56 4 3 M k']∧eF (vs:Int) B M (fun u=>fin (u.foldl tr start))∧vi tr L start B) (¬vi tr L start B):=by
 refine cJ func74 F ntmps74 F ?_
 have LA:L≤64:=by rw[←hL];exact Nat.pow_le_pow_right (by decide) eT
 obtain⟨Vr,Fo⟩:=qT _ _ BQ
 refine ai (ak F (cH (cs:=[r0.a,r0.b]) F F (fun z1=>?_)))
 refine ak F (aR aY F (fun z2=>?_))
 refine ae (ai (ad (dh 1 ie F eZ F F F) (ak F (bH (m:=1) (parts:=[(0,_)]) (cs:=[r0.a,r0.b]) th eZ (by decide) (by kernel_rfl) F (fun z3=>?_)))))
 refine aj F (ae (ai (ak F (i_ str (fun n:Nat=>Value.int .i64 (n:Int)) (fun m4=>?_)))))
 refine ah F (ad (dh 3 ie F eZ F F F) ?_)
 have mw:=(cD (O:=[cm str (fun n:Nat=>Value.int .i64 (n:Int)) m4 [],am (aD z3) 1 122 2 [r0.a,r0.b],oI z2 25 [(vI 0),(vI 0),nS,nS],oI z1 122 [r0.a,r0.b]]) fun w1 hI=>haveI:=di hI;vh w1 start r0 hI.kw BQ (by rw[Np];simp))
 refine ak F (dx mw F F ?_)
 clear mw
 rintro vr O' ⟨N,rfl,rfl,rfl⟩
 refine ak F (ep (a:=start) (v:=(0:Nat)) 0 fL (eN.string ra) F F F F (by simp) ?_)
 refine ah F (aj F (ae (ai (ah F (ad (aK F) (ad (br iR F aO F F (ay dz) (by first|omega|(simp;done)|(simp;omega)|(simp_all;done)|(simp_all;omega))) (ad (cd cS F F (ay dz) F) (ad (bG (cs:=[vN vs,(vI 0),nS,nS]) gD aY (by kernel_rfl)) (ak F (aR aY F (fun z5=>?_)))))))))))
 refine ak F (a8 (vs:=[vN vs,(vI 0),nS,nS]) 0 aY F F F F ?_)
 refine ae (aB (ai (aj F (ae (aG (T.dJ 4 1 ?_))))))
 refine T.dJ 56 1 ?_
 refine ck (O':=[am (aD z3) 1 122 2 (cO c2 [r0]),cm str (fun n:Nat=>Value.int .i64 (n:Int)) m4 [start].zipIdx,am none 0 56 1 (bO []),am none 0 4 1 (bf []),oI z5 25 [vN vs,(vI 0),nS,nS],oI z2 25 [(vI 0),(vI 0),nS,nS],oI z1 122 [r0.a,r0.b]]++(a_ 3 []++fa [r0])) (by rw[show fa [r0]=[] by simp[fa,Np]];exact(ar [4,3,0,0,0,0,0] F)) ?_
 refine cM (fun(s:Nat) ρ O=> ∃(ks:List Key) (qs:List SR) (rq:List Rec) (sb ob fb:Option Addr) (sc oc fc:Nat),O=([am sb sc 122 2 (cO c2 qs),cm str (fun n:Nat=>Value.int .i64 (n:Int)) m4 ks.zipIdx,am ob oc 56 1 (bO rq),am fb fc 4 1 (bf ((ks.take s).map fin)),oI z5 25 [vN vs,(vI 0),(.slice ob s oc),(.slice fb s fc)],oI z2 25 [(vI 0),(vI 0),nS,nS],oI z1 122 [r0.a,r0.b]]++(a_ 3 rq++fa qs))∧tV tr L start s=ks∧xu tr L start ks∧DW Rp ks qs∧ks.length≤B∧ni tr L ks s (nums rq)∧cw [(0,(cW (aD cb) 0)),(1,(.agg #[r0.a,r0.b])),(2,fk),(3,fn),(4,ff),(6,(.pointer (aD z1))),(10,(.pointer (aD z2))),(11,(.slice sb qs.length sc)),(12,(.map (some m4))),(13,(.pointer (aD z5))),(14,vN s)] ρ) (fun s=>B-s) 0 ?_ ?_
 ·exact⟨[start],[r0],[],(aD z3),none,none,1,0,0,F,F,xu.one _ _ _,DW.one BQ,by simpa using gn,⟨F,Nat.zero_le _,fun i hi=>absurd hi (by omega),fun i hi=>absurd hi (by omega)⟩,(.of F)⟩
 rintro s ρ O ⟨ks,qs,rq,sb,ob,fb,sc,oc,fc,rfl,lV,hF,hR,Gq,hE,hH⟩
 obtain⟨fE,rfl⟩:=hH.elim
 clear hH
 have DG:=hR.1
 have E8:rq.length=s:=by have:=hE.len;simpa using this
 have Hd:=hE.le
 refine aB (ai (ah F (ah F (ad (bS th F) (ad (bT F F) (ae (aC F (fun hc=>?_) (fun hc=>?_))))))))
 ·have nA:s<qs.length:=by omega
  have Kg:s<ks.length:=by omega
  refine av (aB (aG (ai (ah F (ad (aK F) (ad (br iR F aO F F (ay dz) (by first|omega|(simp;done)|(simp;omega)|(simp_all;done)|(simp_all;omega))) (ad (cd cS F F (ay dz) F) (ad (a7 (kV (v:=vs) F F (by omega)) (v':=vN L) (by rw[hL])) (ak F (bX (m:=L) bK aO F F (by omega) (by omega) (fun z6=>?_)))))))))))
  refine aj F (ae (aB (ai (ah F (ad (bS bK F) (ah F (ae (aG ?_))))))))
  refine cM (fun(x:Nat) ρ O=> ∃(cX:List Key) (ef:List SR) (ys:List Int) (tb:Option Addr) (tc:Nat),O=([am (aD z6) L 3 1 (ints ys),am tb tc 122 2 (cO c2 ef),cm str (fun n:Nat=>Value.int .i64 (n:Int)) m4 cX.zipIdx,am ob oc 56 1 (bO rq),am fb fc 4 1 (bf ((ks.take s).map fin)),oI z5 25 [vN vs,(vI 0),(.slice ob s oc),(.slice fb s fc)],oI z2 25 [(vI 0),(vI 0),nS,nS],oI z1 122 [r0.a,r0.b]]++(a_ 3 rq++fa ef))∧x≤L∧ys.length=L∧xu tr L start cX∧DW Rp cX ef∧cX.length≤B∧cX=((List.range x).map (tr (ks.getD s []))).foldl add ks∧(∀i,i<x→ys[i]? =some ((ix (tr (ks.getD s []) i) cX:Nat):Int))∧cw [(0,(cW (aD cb) 0)),(1,(.agg #[r0.a,r0.b])),(2,fk),(3,fn),(4,ff),(6,(.pointer (aD z1))),(10,(.pointer (aD z2))),(11,(.slice tb ef.length tc)),(12,(.map (some m4))),(13,(.pointer (aD z5))),(14,vN s),(15,(.slice (aD z6) L L)),(45,vI (L:Int)),(46,vN x)] ρ) (fun x=>L-x) 0 ?_ ?_
  ·exact⟨ks,qs,List.replicate L 0,sb,sc,by simp,Nat.zero_le _,by simp,hF,hR,Gq,F,fun i hi=>absurd hi (by omega),(.of F)⟩
  rintro x ρ O ⟨cX,ef,ys,tb,tc,rfl,hx,wD,BS,rR,AE,lC,tW,hH⟩
  obtain⟨fE,rfl⟩:=hH.elim
  clear hH
  have nL:ks<+:cX:=lC▸eL _ _
  have lY:cX.getD s []=ks.getD s []:=je nL Kg
  have Pn:=nL.length_le
  have AF:=rR.1
  have pE:s<ef.length:=by omega
  have H1:=rR.2 s pE
  rw[lY]at H1
  refine ai (ad (bT F F) (ae (aB (aC F (fun hc=>?_) (fun hc=>?_)))))
  ·have lL:x<L:=by omega
   have BT:x<L:=by omega
   have DX:ks.getD s []∈cX:=by rw[←lY,List.getD_eq_getElem?_getD,List.getElem?_eq_getElem (by omega),Option.getD_some];exact List.getElem_mem _
   refine av (aB (aG (ai (ah F (aj F (ae (ai (ah F (ah F (ah F (ad (cY (i:=s) th eZ F F (cP (mG 1 F)) pE (by rw[gj (f:=c2) (n:=2) (fun _=>rfl)];omega)) (ad (dy (vs:=[ef[s].a,ef[s].b]) ie F eZ F F (Nat.succ_pos _) (cP (mG 1 F)) (DY pE)) (ah F (ad (et cS eu F (ny (by omega))) ?_))))))))))))))
   have AG:=(cD (O:=([am (aD z6) L 3 1 (ints ys),am tb tc 122 2 (cO c2 ef),cm str (fun n:Nat=>Value.int .i64 (n:Int)) m4 cX.zipIdx,am ob oc 56 1 (bO rq),am fb fc 4 1 (bf ((ks.take s).map fin)),oI z5 25 [vN vs,(vI 0),(.slice ob s oc),(.slice fb s fc)],oI z2 25 [(vI 0),(vI 0),nS,nS],oI z1 122 [r0.a,r0.b]]++(a_ 3 rq++fa ef))) fun w1 hI=>haveI:=di hI;dT w1 (ks.getD s []) ef[s] x hI.kw H1 (fun it dZ=>hI.holds it (List.mem_append_right _ (List.mem_append_right _ (mx pE dZ)))) BT)
   refine ak F (dx AG F F ?_)
   clear AG
   rintro vr O' ⟨N9,rfl,r9,rfl,rfl,BU⟩
   obtain⟨Nq,Ro⟩:=qT _ _ BU
   refine cQ (O':=([am (aD z6) L 3 1 (ints ys),am tb tc 122 2 (cO c2 ef),cm str (fun n:Nat=>Value.int .i64 (n:Int)) m4 cX.zipIdx,am ob oc 56 1 (bO rq),am fb fc 4 1 (bf ((ks.take s).map fin)),oI z5 25 [vN vs,(vI 0),(.slice ob s oc),(.slice fb s fc)],oI z2 25 [(vI 0),(vI 0),nS,nS],oI z1 122 [r0.a,r0.b]]++(r9.ik++(a_ 3 rq++fa ef)))) (by exact eg [] _ r9.ik (a_ 3 rq++fa ef)) ?_
   refine ak F (aR eZ F (fun z7=>?_))
   refine ak F (sf (v:=(.agg #[r9.a,r9.b])) (vs:=[r9.a,r9.b]) 0 eZ F F F F (by simp[Nq,Ro]) F (by simp[dK]) ?_)
   refine ae (ai (ah F (ah F (ad (dh 0 ie F eZ F F F) ?_))))
   have u7:=(cD (O:=([oI z7 122 [r9.a,r9.b],am (aD z6) L 3 1 (ints ys),am tb tc 122 2 (cO c2 ef),cm str (fun n:Nat=>Value.int .i64 (n:Int)) m4 cX.zipIdx,am ob oc 56 1 (bO rq),am fb fc 4 1 (bf ((ks.take s).map fin)),oI z5 25 [vN vs,(vI 0),(.slice ob s oc),(.slice fb s fc)],oI z2 25 [(vI 0),(vI 0),nS,nS],oI z1 122 [r0.a,r0.b]]++(r9.ik++(a_ 3 rq++fa ef)))) fun w1 hI=>haveI:=di hI;vh w1 (tr (ks.getD s []) x) r9 hI.kw BU (fun it dZ=>hI.holds it (List.mem_append_right _ (List.mem_append_left _ dZ))))
   refine ak F (dx u7 F F ?_)
   clear u7
   rintro vr O' ⟨N,rfl,rfl,rfl⟩
   refine ad (a7 (gL (a:=tr (ks.getD s []) x) fL aO (eN.string ra) F F (mG 3 F)) (v':=(.tuple #[vN (if tr (ks.getD s []) x∈cX then ix (tr (ks.getD s []) x) cX else 0),.bool (decide (tr (ks.getD s []) x∈cX))])) (by rw[iE];generalize tr (ks.getD s []) x=k9;by_cases h9:k9∈cX<;>simp[h9])) (ah F (ad (aV (vs:=_) F F) (ad (aV (vs:=_) F F) (aj F (aj F (ae (aB (ai (ah F (ad (gy F) (ae (T.cond F (fun hc=>?_) (fun hc=>?_)))))))))))))
   ·have xw:tr (ks.getD s []) x∉cX:=by simpa using hc
    have iF:=yx xw
    refine ai (ah F (ad (bS th F) (aj F (ae (ai (ah F (ah F (ad (dh 0 ie F eZ F F F) ?_))))))))
    have vj:=(cD (O:=([oI z7 122 [r9.a,r9.b],am (aD z6) L 3 1 (ints ys),am tb tc 122 2 (cO c2 ef),cm str (fun n:Nat=>Value.int .i64 (n:Int)) m4 cX.zipIdx,am ob oc 56 1 (bO rq),am fb fc 4 1 (bf ((ks.take s).map fin)),oI z5 25 [vN vs,(vI 0),(.slice ob s oc),(.slice fb s fc)],oI z2 25 [(vI 0),(vI 0),nS,nS],oI z1 122 [r0.a,r0.b]]++(r9.ik++(a_ 3 rq++fa ef)))) fun w1 hI=>haveI:=di hI;vh w1 (tr (ks.getD s []) x) r9 hI.kw BU (fun it dZ=>hI.holds it (List.mem_append_right _ (List.mem_append_left _ dZ))))
    refine ak F (dx vj F F ?_)
    clear vj
    rintro vr O' ⟨N,rfl,rfl,rfl⟩
    refine ah F (ak F (me (a:=tr (ks.getD s []) x) (v:=ef.length) 3 fL (eN.string ra) F F F F (by rw[jN];exact xw) ?_))
    refine ae (ai (ah F (ad (dh 0 ie F eZ F F F) (ak F (bH (m:=1) (parts:=[(0,_)]) (cs:=[r9.a,r9.b]) th eZ (by decide) (by kernel_rfl) F (fun z8=>?_))))))
    refine ak F (bY 3 th th eZ F F F F (by rw[gj (f:=c2) (n:=2) (fun _=>rfl)]) (by decide) (Src.row (j:=0) F (by simp)) (by simp[Nq,Ro]) (by omega) (by decide) (by decide) (fun z9 kF=>?_))
    refine aj F (ae (ai (ah F (ah F (ad (aK F) (ad (br iR F aO F F (ay dz) (by first|omega|(simp;done)|(simp;omega)|(simp_all;done)|(simp_all;omega))) (ad (cd cS F F (ay dz) F) (ad (jF F F) (ae (aC F (fun hc=>?_) (fun hc=>?_)))))))))))
    ·have Nr:ef.length≥B:=by omega
     refine aJ (ad (bG rn ve F) (ad (mv AA F) ?_))
     exact de F (rp F (fun _=>⟨F,(BS.add DX BT).Po (by rw[iF];simp;omega)⟩))
    have Ns: ¬ef.length≥B:=by omega
    refine av (aJ (ah F (ah F (ah F (ad (cV (i:=x) bK aO F F (cP (mG 2 F)) (by omega) (by rw[List.length_map];omega)) (ak F (lB (j:=x) (v:=vI (ef.length:Int)) (vs:=[(vI (ef.length:Int))]) (cs:=ints ys) 2 aO F F F F F (by simp) F (by first|(simp;omega)|(simp_all;omega)) ?_)))))))
    refine cQ (O':=([am (aD z8) 1 122 2 [r9.a,r9.b],oI z7 122 [r9.a,r9.b],am (aD z6) L 3 1 (ints (ys.set x ((ix (tr (ks.getD s []) x) (add cX (tr (ks.getD s []) x)):Nat):Int))),am z9 kF 122 2 ((cO c2 ef)++[r9.a,r9.b]),cm str (fun n:Nat=>Value.int .i64 (n:Int)) m4 (cX.zipIdx++[(tr (ks.getD s []) x,ef.length)]),am ob oc 56 1 (bO rq),am fb fc 4 1 (bf ((ks.take s).map fin)),oI z5 25 [vN vs,(vI 0),(.slice ob s oc),(.slice fb s fc)],oI z2 25 [(vI 0),(vI 0),nS,nS],oI z1 122 [r0.a,r0.b]]++(r9.ik++(a_ 3 rq++fa ef)))) (by rw[show dK (ints ys) x [(vI (ef.length:Int))]=ints (ys.set x ((ix (tr (ks.getD s []) x) (add cX (tr (ks.getD s []) x)):Nat):Int))from(by rw[iF,ei xw,show ix (tr (ks.getD s []) x) [tr (ks.getD s []) x]=0 by simp[ix],Nat.add_zero,←AF];simp[dK])];exact bn (List.Sublist.refl _)) ?_
    refine ae (aJ (ad (cx (a:=x) (b:=1) F F (by omega)) (ah F (ae ?_))))
    have wE: ∀y,y<x→tr (ks.getD s []) y∈cX:=fun y hy=>by rw[lC,dc];exact .inr (List.mem_map_of_mem (List.mem_range.2 hy))
    have vk: ∀i,i<x+1→(ys.set x ((ix (tr (ks.getD s []) x) (add cX (tr (ks.getD s []) x)):Nat):Int))[i]? =some ((ix (tr (ks.getD s []) i) (add cX (tr (ks.getD s []) x)):Nat):Int):=fun i hi=>by
     by_cases e:i=x
     ·subst e;rw[List.getElem?_set_self (by omega)]
     ·rw[List.getElem?_set_ne (fun h=>e h.symm),tW i (by omega),e_ (gk _ _) (wE i (by omega))]
    have s9:=rR.snoc BU
    rw[←iF]at s9
    have Tf:=BS.add DX BT
    exact⟨x+1,by omega,[am (aD z6) L 3 1 (ints (ys.set x ((ix (tr (ks.getD s []) x) (add cX (tr (ks.getD s []) x)):Nat):Int))),am z9 kF 122 2 (cO c2 (ef++[r9])),cm str (fun n:Nat=>Value.int .i64 (n:Int)) m4 ((add cX (tr (ks.getD s []) x)).zipIdx),am ob oc 56 1 (bO rq),am fb fc 4 1 (bf ((ks.take s).map fin)),oI z5 25 [vN vs,(vI 0),(.slice ob s oc),(.slice fb s fc)],oI z2 25 [(vI 0),(vI 0),nS,nS],oI z1 122 [r0.a,r0.b]]++(a_ 3 rq++fa (ef++[r9])),(by rw[su,oH,iF,show(cX++[tr (ks.getD s []) x]).zipIdx=cX.zipIdx++[(tr (ks.getD s []) x,ef.length)] by rw[List.zipIdx_append,AF];simp];exact qn _ _ _ _ _ (by exact Sub.d (.d (.k (.k (.k (.k (.k (.k (.k (.k .z))))))))))),add cX (tr (ks.getD s []) x),ef++[r9],_,z9,kF,F,by omega,by simp[wD],Tf,s9,by rw[iF];simp;omega,by rw[fw,←lC],vk,⟨F,F,F,F,F,F,F,(show Value.slice z9 (ef.length+1) kF=_ by rw[List.length_append];rfl),F,F,F,F,F,F,trivial⟩⟩
   have xw:tr (ks.getD s []) x∈cX:=by simpa using hc
   have iF:=yy xw
   refine av (aJ (ah F (ah F (ah F (ad (cV (i:=x) bK aO F F (cP (mG 1 F)) (by omega) (by rw[List.length_map];omega)) (ak F (lB (j:=x) (v:=vN (if tr (ks.getD s []) x∈cX then ix (tr (ks.getD s []) x) cX else 0)) (vs:=[(vN (if tr (ks.getD s []) x∈cX then ix (tr (ks.getD s []) x) cX else 0))]) (cs:=ints ys) 1 aO F F F F F (by simp) F (by first|(simp;omega)|(simp_all;omega)) ?_)))))))
   refine cQ (O':=([oI z7 122 [r9.a,r9.b],am (aD z6) L 3 1 (ints (ys.set x ((ix (tr (ks.getD s []) x) (add cX (tr (ks.getD s []) x)):Nat):Int))),am tb tc 122 2 (cO c2 ef),cm str (fun n:Nat=>Value.int .i64 (n:Int)) m4 cX.zipIdx,am ob oc 56 1 (bO rq),am fb fc 4 1 (bf ((ks.take s).map fin)),oI z5 25 [vN vs,(vI 0),(.slice ob s oc),(.slice fb s fc)],oI z2 25 [(vI 0),(vI 0),nS,nS],oI z1 122 [r0.a,r0.b]]++(r9.ik++(a_ 3 rq++fa ef)))) (by rw[show dK (ints ys) x [(vN (if tr (ks.getD s []) x∈cX then ix (tr (ks.getD s []) x) cX else 0))]=ints (ys.set x ((ix (tr (ks.getD s []) x) (add cX (tr (ks.getD s []) x)):Nat):Int))from(by rw[iF,if_pos xw];simp[dK])];exact bn (List.Sublist.refl _)) ?_
   refine ae (aJ (ad (cx (a:=x) (b:=1) F F (by omega)) (ah F (ae ?_))))
   have wE: ∀y,y<x→tr (ks.getD s []) y∈cX:=fun y hy=>by rw[lC,dc];exact .inr (List.mem_map_of_mem (List.mem_range.2 hy))
   have vk: ∀i,i<x+1→(ys.set x ((ix (tr (ks.getD s []) x) (add cX (tr (ks.getD s []) x)):Nat):Int))[i]? =some ((ix (tr (ks.getD s []) i) (add cX (tr (ks.getD s []) x)):Nat):Int):=fun i hi=>by
    by_cases e:i=x
    ·subst e;rw[List.getElem?_set_self (by omega)]
    ·rw[List.getElem?_set_ne (fun h=>e h.symm),tW i (by omega),e_ (gk _ _) (wE i (by omega))]
   have s9:=rR
   rw[←iF]at s9
   exact⟨x+1,by omega,[am (aD z6) L 3 1 (ints (ys.set x ((ix (tr (ks.getD s []) x) (add cX (tr (ks.getD s []) x)):Nat):Int))),am tb tc 122 2 (cO c2 ef),cm str (fun n:Nat=>Value.int .i64 (n:Int)) m4 ((add cX (tr (ks.getD s []) x)).zipIdx),am ob oc 56 1 (bO rq),am fb fc 4 1 (bf ((ks.take s).map fin)),oI z5 25 [vN vs,(vI 0),(.slice ob s oc),(.slice fb s fc)],oI z2 25 [(vI 0),(vI 0),nS,nS],oI z1 122 [r0.a,r0.b]]++(a_ 3 rq++fa ef),(by rw[iF];exact dO _ _ _ _ (by exact Sub.d (.k (.k (.k (.k (.k (.k (.k (.k .z)))))))))),add cX (tr (ks.getD s []) x),ef,_,tb,tc,F,by omega,by simp[wD],BS.add DX BT,s9,by rw[iF];exact AE,by rw[fw,←lC],vk,(.of F)⟩
  have lM: ¬x<L:=by omega
  refine bJ ?_
  refine T.ds [am tb tc 122 2 (cO c2 ef),oI z5 25 [vN vs,(vI 0),(.slice ob s oc),(.slice fb s fc)]] [(0,0),(1,0),(2,0),(5,0),(6,0),(7,0),(8,0),(9,0),(10,0),(11,0),(3,1),(4,1),(15,0),(12,1),(13,1),(14,1),(16,2),(17,2),(18,2)] (by exact Sub.d (.k (.d (.d (.d (.k .z)))))) ?_
  refine ao F (aN bW F dM F F) (ao F (aQ 1 du F F F F) (ao F (az F) (ao F (aN bW F cA F F) (ao F (aQ 1 df F F F F) (ao F (az F) (ao F (az F) (ao F (az F) (ao F (cY (i:=s) th eZ F F (cP (mG 0 F)) pE (by rw[gj (f:=c2) (n:=2) (fun _=>rfl)];omega)) (ao F (dy (vs:=[ef[s].a,ef[s].b]) ie F eZ F F (Nat.succ_pos _) (cP (mG 0 F)) (DY pE)) ?_)))))))))
  refine bo F F (bM (v:=(.slice (aD z6) L L)) du bV F F F (fun tR=>⟨by exact Sub.d (.d (.k (.d (.d (.d (.k .z)))))),?_⟩))
  refine bo F F (bY 4 du du bV F F F F (by simp;omega) (by decide) (Src.row (j:=0) F (by simp)) (by simp[dS]) (by omega) (by decide) (by decide) (fun z12 nj=>⟨by exact Sub.d (.d (.k (.d (.d (.d (.k .z)))))),?_⟩))
  refine ao F (aN bW F dM F F) ?_
  have tf:=(cD (O:=([am (aD tR) 1 56 1 [(.slice (aD z6) L L)],am (aD z6) L 3 1 (ints ys),am tb tc 122 2 (cO c2 ef),cm str (fun n:Nat=>Value.int .i64 (n:Int)) m4 cX.zipIdx,am z12 nj 56 1 ((bO rq)++[(.slice (aD z6) L L)]),am fb fc 4 1 (bf ((ks.take s).map fin)),oI z5 25 [vN vs,(vI 0),(.slice ob s oc),(.slice fb s fc)],oI z2 25 [(vI 0),(vI 0),nS,nS],oI z1 122 [r0.a,r0.b]]++(a_ 3 rq++fa ef))) fun w1 hI=>haveI:=di hI;wC w1 (ks.getD s []) ef[s] hI.kw H1 (fun it dZ=>hI.holds it (List.mem_append_right _ (List.mem_append_right _ (mx pE dZ)))))
  refine bo F F (dx tf F F ?_)
  clear tf
  rintro vr O' ⟨N,rfl,rfl,rfl⟩
  refine⟨by exact Sub.d (.d (.k (.d (.d (.d (.k .z)))))),?_⟩
  refine bo F F (bM (v:=.bool (fin (ks.getD s []))) df dU F F F (fun xk=>⟨by exact Sub.d (.d (.d (.k (.d (.d (.d (.k .z))))))),?_⟩))
  refine bo F F (bY 6 df df dU F F F F (by simp;omega) (by decide) (Src.row (j:=0) F (by simp)) (by simp[dS]) (by omega) (by decide) (by decide) (fun u_ oJ=>⟨by exact Sub.d (.d (.d (.k (.d (.d (.d (.k .z))))))),?_⟩))
  refine bq F F (a8 (vs:=[(.slice z12 (s+1) nj)]) 7 dM F F F F ?_)
  refine bq F F (dw F F (aN bW F cA F F) ?_)
  refine bq F F (a8 (vs:=[(.slice u_ (s+1) oJ)]) 7 cA F F F F ?_)
  refine bw ?_
  have kY:bf ((cX.take (s+1)).map fin)=bf ((ks.take s).map fin)++[.bool (fin (ks.getD s []))]:=by
   rw[List.take_succ_eq_append_getElem (by omega:s<cX.length),List.map_append,show cX.take s=ks.take s by obtain⟨t9,rfl⟩:=nL;rw[List.take_append_of_le_length (by omega)],←lY,show cX.getD s []=cX[s] by rw[List.getD_eq_getElem?_getD,List.getElem?_eq_getElem (by omega),Option.getD_some]]
   simp
  refine ck (O':=[am tb tc 122 2 (cO c2 ef),cm str (fun n:Nat=>Value.int .i64 (n:Int)) m4 cX.zipIdx,am z12 nj 56 1 (bO (rq++[⟨(aD z6),L,ys⟩])),am u_ oJ 4 1 (bf ((cX.take (s+1)).map fin)),oI z5 25 [vN vs,(vI 0),(.slice z12 (s+1) nj),(.slice u_ (s+1) oJ)],oI z2 25 [(vI 0),(vI 0),nS,nS],oI z1 122 [r0.a,r0.b]]++(a_ 3 (rq++[⟨(aD z6),L,ys⟩])++fa ef)) (by
   rw[kY,show bO (rq++[⟨(aD z6),L,ys⟩])=(bO rq)++[(.slice (aD z6) L L)] by simp[Rec.val,wD],show a_ 3 (rq++[⟨(aD z6),L,ys⟩])=a_ 3 rq++[am (aD z6) L 3 1 (ints ys)] by simp[a_,Rec.qG]]
   exact lN [am tb tc 122 2 (cO c2 ef),cm str (fun n:Nat=>Value.int .i64 (n:Int)) m4 cX.zipIdx,am z12 nj 56 1 ((bO rq)++[(.slice (aD z6) L L)]),am u_ oJ 4 1 ((bf ((ks.take s).map fin))++[.bool (fin (ks.getD s []))]),oI z5 25 [vN vs,(vI 0),(.slice z12 (s+1) nj),(.slice u_ (s+1) oJ)],oI z2 25 [(vI 0),(vI 0),nS,nS],oI z1 122 [r0.a,r0.b]] [am (aD xk) 1 4 1 [.bool (fin (ks.getD s []))],am (aD tR) 1 56 1 [(.slice (aD z6) L L)],am (aD z6) L 3 1 (ints ys),am tb tc 122 2 (cO c2 ef),cm str (fun n:Nat=>Value.int .i64 (n:Int)) m4 cX.zipIdx,am z12 nj 56 1 ((bO rq)++[(.slice (aD z6) L L)]),am u_ oJ 4 1 ((bf ((ks.take s).map fin))++[.bool (fin (ks.getD s []))]),oI z5 25 [vN vs,(vI 0),(.slice z12 (s+1) nj),(.slice u_ (s+1) oJ)],oI z2 25 [(vI 0),(vI 0),nS,nS],oI z1 122 [r0.a,r0.b]] (a_ 3 rq) (fa ef) (am (aD z6) L 3 1 (ints ys)) (by exact Sub.d (.d (.dr [am (aD z6) L 3 1 (ints ys)] _ (.dr [am (aD z6) L 3 1 (ints ys)] _ (.dr [am (aD z6) L 3 1 (ints ys)] _ (.dr [am (aD z6) L 3 1 (ints ys)] _ (.dr [am (aD z6) L 3 1 (ints ys)] _ (.dr [am (aD z6) L 3 1 (ints ys)] _ (.dr [am (aD z6) L 3 1 (ints ys)] _ (.k .z))))))))))) ?_
  refine aJ (ah F (ad (cx (a:=s) (b:=1) F F (by omega)) (aj F (ae ?_))))
  have AH:x=L:=by omega
  have LB:ys=iu tr L cX s:=by
   apply List.ext_getElem?
   intro i
   by_cases hi:i<L
   ·rw[tW i (by omega)];simp only[iu,lY];simp[hi]
   ·rw[List.getElem?_eq_none (by omega),List.getElem?_eq_none (by simp[iu];omega)]
  have wE: ∀y,y<L→tr (ks.getD s []) y∈cX:=fun y hy=>by rw[lC,dc];exact .inr (List.mem_map_of_mem (List.mem_range.2 (by omega)))
  have K5:ni tr L cX (s+1) (nums (rq++[⟨(aD z6),L,ys⟩])):=by
   have:=hE.snoc nL Kg LB (by rw[lY];exact wE)
   simpa[nums]using this
  exact⟨s+1,by omega,_,bn (List.Sublist.refl _),cX,ef,rq++[⟨(aD z6),L,ys⟩],tb,z12,u_,tc,nj,oJ,F,by rw[tV,lV,lC,AH],BS,rR,AE,K5,(.of F)⟩
 have nB: ¬s<qs.length:=by omega
 refine bJ ?_
 refine aB ?_
 have H2:s=ks.length:=by omega
 have pm:rq.length=(nums rq).length:=by simp
 obtain⟨W,hW⟩: ∃W,W=FF vs (nums rq) (ks.map fin):=⟨_,F⟩
 have yz:HasL (vs:Int) ks.length W (fun u=>fin (u.foldl tr start)):=by rw[hW];exact yA eT (by rw[hL];exact hF) (by rw[hL,←H2];exact hE) (by omega)
 have e1:nums rq=W.next:=by rw[hW];rfl
 have e2:(ks.take s).map fin=W.ax:=by rw[hW,List.take_of_length_le (by omega)];rfl
 have e3:(vs:Int)=W.vars:=by rw[hW];rfl
 have e4:(0:Int)=W.start:=by rw[hW];rfl
 have e5:s=W.next.length:=by rw[←e1,←pm];omega
 have e6:s=W.ax.length:=by rw[yz.valid.fin,←e5]
 obtain⟨M,hM⟩: ∃m,gJ W=m:=⟨_,F⟩
 have DZ:eF (vs:Int) ks.length M (fun u=>fin (u.foldl tr start)):=hM▸yz.qL
 obtain⟨z9,Pp⟩: ∃z:DK,z=⟨ob,oc,fb,fc,rq⟩:=⟨_,F⟩
 refine ck (O':=([am ob oc 56 1 (bO rq),am fb fc 4 1 (bf ((ks.take s).map fin)),oI z5 25 [vN vs,(vI 0),(.slice ob s oc),(.slice fb s fc)],oI z2 25 [(vI 0),(vI 0),nS,nS],oI z1 122 [r0.a,r0.b]]++a_ 3 rq)) (oK _ _ _ _ (by exact Sub.d (.d (.k (.k (.k (.k (.k .z)))))))) ?_
 refine ck (O':=(([am ob oc 56 1 (bO rq),am fb fc 4 1 (bf W.ax)]++a_ 3 rq)++[oI z5 25 [(vI W.vars),(vI W.start),(.slice ob W.next.length oc),(.slice fb W.ax.length fc)],oI z2 25 [(vI 0),(vI 0),nS,nS],oI z1 122 [r0.a,r0.b]])) (by rw[←e5,←e6,←e2,←e3,←e4];exact eW [am ob oc 56 1 (bO rq),am fb fc 4 1 (bf ((ks.take s).map fin))] (a_ 3 rq) [oI z5 25 [vN vs,(vI 0),(.slice ob s oc),(.slice fb s fc)],oI z2 25 [(vI 0),(vI 0),nS,nS],oI z1 122 [r0.a,r0.b]]) ?_
 refine ol (φ:=nums rq=W.next) e1 ?_
 refine ck (O':=[dI 56 4 3 W z9,oI z5 25 (dC W z9),oI z2 25 [(vI 0),(vI 0),nS,nS],oI z1 122 [r0.a,r0.b]]) (by subst Pp;exact Sub.rf) ?_
 refine aJ (ah F (ad (dh 1 bW F aY F F F) (ak F (aP xo (aI fun w1 hI=>(haveI:=di hI;xp w1 W z9 (hI.at (k:=z9) (mG 0 F)) yz.valid (by have:=yz.valid.n4;omega) (M:=M) hM)) F ?_))))
 rintro vr O' ⟨N,rfl,k9,rfl,rfl⟩
 refine ad (aV (vs:=_) F F) (ad (aV (vs:=_) F F) ?_)
 have tg:=fun(w1:World) (hI:Inv w [dI 56 4 3 M k9,dI 56 4 3 W z9,oI z5 25 (dC W z9),oI z2 25 [(vI 0),(vI 0),nS,nS],oI z1 122 [r0.a,r0.b]] w1)=>(haveI:=di hI;kj w1 cb eb en ec vs B (hI.sl dz) M k9 0)
 refine de F (dA oL (cB.pure tg) F (fun z _=>⟨F,fun _=>z ⟨F,by have:=DZ.len;omega⟩⟩) ?_)
 clear tg
 rintro vr O' ⟨N,rfl,rfl,rfl,_,vl⟩
 refine ak F (a8 (vs:=(dC M k9)) 3 aY F F F F ?_)
 refine ae (aA (ap ?_))
 refine bL (i:=3) Tryz.results74 bW F aY F F F ?_
 exact⟨[dI 56 4 3 M k9],(by exact Sub.k .z),M,k9,F,F,⟨DZ.toHasL.le vl,DZ.min⟩,vm hF (H2▸hE) Gq⟩
end Go.Proofs.YtgdbfideeeegmaaGreatDoor


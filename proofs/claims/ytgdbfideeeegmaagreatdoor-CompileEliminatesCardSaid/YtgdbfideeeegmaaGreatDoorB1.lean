/- Contracts of functions of the program, and what they answer. Conditions: those each theorem names. -/
import Derived.Test.YtgdbfideeeegmaaGreatDoorA2
import Derived.Test.YtgdbfideeeegmaaGreatDoorA9
import Derived.Test.YtgdbfideeeegmaaGreatDoorA7
import Derived.Test.YtgdbfideeeegmaaGreatDoorA6
import Derived.Lib.RowBridge
import Derived.Test.YtgdbfideeeegmaaGreatDoorProg
import Derived.Test.YtgdbfideeeegmaaGreatDoorB0
set_option linter.unusedSectionVars false
set_option linter.unusedSimpArgs false
set_option linter.unusedVariables false
set_option linter.unnecessarySimpa false
set_option maxHeartbeats 8000000
set_option maxRecDepth 20000
namespace Go.Proofs.YtgdbfideeeegmaaGreatDoor
open Go.Lx Go.RowKit _root_.Go.Proofs.Tryz
theorem o_.frame {base:World} {f:FuncId} {args:List Value} {zs:Nat} {bb:Option Addr} {bc kK:Nat} {bh:List Nat} {ls:List Lf} {r:OB} {E:List Cf} (h:o_ base f args zs bb bc kK bh ls r E) (B:List Lx.Item) {O:List Lx.Item} (cb:Option Addr) (cc:Nat) (l:List CR) (p:List OB) (hS:jO ls l p) (hp:kG p r) (hs:Sub ([da zs (.cells (List.toArray [(.slice bb bh.length bc),(.slice cb l.length cc)]) 122 (0,0)),ak cb cc 169 3 (cz l),ak bb kK 3 1 (aQ bh)]++B) O):
  bw Tryz.prog base f args (O++eR 173 p) (fun v O'=> ∃sU sV l' p',v=.tuple #[]∧O'=([da zs (.cells (List.toArray [(.slice bb bh.length bc),(.slice sU l'.length sV)]) 122 (0,0)),ak sU sV 169 3 (cz l'),ak bb kK 3 1 (aQ bh)]++B)++eR 173 p'∧l'.map CR.cf=E.foldl add (l.map CR.cf)∧jO ls l' p'∧(∀x∈p,x∈p')):=by
 refine((h cb cc l p hS hp).under (B:=B) (pe _ _ _ _ hs)).post ?_
 rintro v O' ⟨A',rfl,sU,sV,l',p',rfl,rfl,h1,h2,h3⟩
 exact⟨_,pf _ _ _,sU,sV,l',p',F,F,h1,h2,h3⟩
def se (nb:List Nat) (k:Nat):List Nat:=nb.take k++List.replicate (nb.length-k) 0
theorem pM {nb:List Nat} {k:Nat} (h:k≤nb.length):(se nb k).length=nb.length:=by unfold se;rw[List.length_append,List.length_take,List.length_replicate];omega
theorem Bn (nb:List Nat):se nb 0=List.replicate nb.length 0:=by simp[se]
theorem Ep (nb:List Nat):se nb nb.length=nb:=by simp[se]
theorem y9 {nb:List Nat} {k:Nat} (h:k<nb.length):(se nb k).set k nb[k]=se nb (k+1):=by
 unfold se
 rw[List.take_succ_eq_append_getElem h,show nb.length-k=(nb.length-(k+1))+1 by omega,List.replicate_succ,List.set_append_right _ _ (by simp;omega),List.append_assoc]
 simp[Nat.min_eq_left (Nat.le_of_lt h)]
theorem IG {nb:List Nat} {k:Nat} (h:k<nb.length) (h0:nb[k]=0):se nb (k+1)=se nb k:=by
 rw[←y9 h,h0]
 unfold se
 rw[show nb.length-k=(nb.length-(k+1))+1 by omega,List.replicate_succ,List.set_append_right _ _ (by simp;omega)]
 simp[Nat.min_eq_left (Nat.le_of_lt h)]
theorem LJ (w:World) [cG Tryz.prog w] (ob:Nat) (lb:Option Addr) (lc:Nat) (cv fv:Value) (ls:List Lf) (ks:List LK) (ho:jK w ob lb lc cv fv ls ks) (vs:Nat) (hG:gU ls vs) {K:Nat} (hK:p7 ls K) (wa:K<1099511627776) (first:List Nat) (fb:Option Addr) (fc:Nat) (hfv:fv=.slice fb first.length fc) (j8:Sl w fb (aQ first)) (hf: ∀k∈first,k<ls.length) (qp:first.length≤1000000):
  bs Tryz.prog 75 [(du (aD ob) 0)] w fun v N=> ∃bb bc kK cb cc l p,v=.agg #[.slice bb (ls.map fun l=>l.d.start.toNat).length bc,.slice cb l.length cc]∧N=[ak bb kK 3 1 (aQ (ls.map fun l=>l.d.start.toNat)),ak cb cc 169 3 (cz l)]++eR 173 p∧l.map CR.cf=(first.flatMap fun k=>ft ls (2*ls.length) (ls.map fun l=>l.d.start.toNat) k []).foldl add []∧jO ls l p:=by
 refine av func75 F ntmps75 F ?_
 have ie:=hG.len
 obtain⟨nb,AC⟩: ∃l:List Nat,l=(ls.map fun l=>l.d.start.toNat):=⟨_,F⟩
 have DE:nb.length=ls.length:=by rw[AC];simp
 refine ai (aj F (aR fe F (fun z1=>?_)))
 refine ae (ai (ah F (ad (aP F) (ad (bG gy F gj F F (aB ho.bx) (by first|omega|(simp;done)|(simp;omega)|(simp_all;done)|(simp_all;omega))) (ad (bS eF F F (aB ho.bx) F) (ad (bL eF F) (aj F (bV (m:=ls.length) bT aM F F (by omega) (by omega) (fun z2=>?_)))))))))
 refine ad (bE (cs:=[(.slice (aD z2) ls.length ls.length),nS]) Er fe (by kernel_rfl)) (aj F (aR fe F (fun z3=>?_)))
 refine aj F (bj (vs:=[(.slice (aD z2) ls.length ls.length),nS]) 0 fe F F F F ?_)
 refine ae (ax (ai (ah F (ad (aP F) (ad (bG gy F gj F F (aB ho.bx) (by first|omega|(simp;done)|(simp;omega)|(simp_all;done)|(simp_all;omega))) (ad (bS eF F F (aB ho.bx) F) (ad (bL eF F) (ah F (ae (aC ?_))))))))))
 refine cE (fun(k:Nat) ρ O=>O=[oI z3 122 [(.slice (aD z2) ls.length ls.length),nS],ak (aD z2) ls.length 3 1 (aQ (se nb k)),oI z1 122 [nS,nS]]∧k≤ls.length∧bZ [(0,(du (aD ob) 0)),(2,(.pointer (aD z1))),(3,(.pointer (aD z3))),(18,(.slice lb ls.length lc)),(19,vI (ls.length:Int)),(20,vI ((k:Nat):Int))] ρ) (fun k=>ls.length-k) 0 ?_ ?_
 ·exact⟨by rw[Bn,DE,show aQ (List.replicate ls.length 0)=List.replicate ls.length (vI 0) by simp];rfl,Nat.zero_le _,(.of F)⟩
 rintro k ρ O ⟨rfl,hk,hH⟩
 obtain⟨eP,rfl⟩:=hH.elim
 clear hH
 refine ai (ad (bI F F) (ae (ax (aw F (fun hc=>?_) (fun hc=>?_)))))
 ·have jA:k<ls.length:=by omega
  refine aq (ax (aC (ai (ah F (ad (db (i:=k) eF dZ F F (aB ho.rw) jA (by rw[cX ho.kl];omega)) (ad (dT (vs:=[v8 ((lf ls k).op),vI (lf ls k).d.vars,vI (((lf ls k).d.start.toNat:Nat):Int),(.slice (lk ks k).k.nb ((lf ls k).d.next.length) ((lk ks k).k.nc)),(.slice (lk ks k).k.fb ((lf ls k).d.aA.length) ((lk ks k).k.fc)),(.slice (lk ks k).b ((lf ls k).fo.length) ((lk ks k).c)),.bool (lf ls k).la]) gq F dZ F F (Nat.succ_pos _) (aB ho.rw) (ni ho.kl jA (hG.iZ jA).s0)) (aj F (aR dZ F (fun z4=>?_)))))))))
  refine TO.qa F (aj F (bj (vs:=[v8 ((lf ls k).op),vI (lf ls k).d.vars,vI (((lf ls k).d.start.toNat:Nat):Int),(.slice (lk ks k).k.nb ((lf ls k).d.next.length) ((lk ks k).k.nc)),(.slice (lk ks k).k.fb ((lf ls k).d.aA.length) ((lk ks k).k.fc)),(.slice (lk ks k).b ((lf ls k).fo.length) ((lk ks k).c)),.bool (lf ls k).la]) 0 dZ F F F F ?_))
  refine ae (aH (ad (aJ iC F bP F F) (ad (aO 1 bT F F F F) (ah F (ad (aJ gq F aX F F) (ad (aJ cy F aM F F) (ad (aO 0 dh F F F F) (ad (cq (i:=k) bT aM F F (cw (mG 2 F)) (by first|omega|(rw[pM (by omega)];omega)) (by first|omega|(rw[List.length_map,pM (by omega)];omega))) (aj F (jW (j:=k) (v:=vI (((lf ls k).d.start.toNat:Nat):Int)) (vs:=[(vI (((lf ls k).d.start.toNat:Nat):Int))]) (cs:=aQ (se nb k)) 2 aM F F F F F (by simp) F (by rw[List.length_map,pM (by omega)];simp;omega) ?_))))))))))
  refine bM (O':=[oI z4 118 [v8 ((lf ls k).op),vI (lf ls k).d.vars,vI (((lf ls k).d.start.toNat:Nat):Int),(.slice (lk ks k).k.nb ((lf ls k).d.next.length) ((lk ks k).k.nc)),(.slice (lk ks k).k.fb ((lf ls k).d.aA.length) ((lk ks k).k.fc)),(.slice (lk ks k).b ((lf ls k).fo.length) ((lk ks k).c)),.bool (lf ls k).la],oI z3 122 [(.slice (aD z2) ls.length ls.length),nS],ak (aD z2) ls.length 3 1 (aQ (se nb (k+1))),oI z1 122 [nS,nS]]) (by rw[show dl (aQ (se nb k)) k [(vI (((lf ls k).d.start.toNat:Nat):Int))]=aQ (se nb (k+1))from(by rw[←y9 (by omega),show nb[k]=(lf ls k).d.start.toNat by simp only[AC,List.getElem_map,C_ jA]];simp[dl])];exact a_ (List.Sublist.refl _)) ?_
  refine ae (aH (ad (cj (a:=k) (b:=1) F F (by omega)) (ah F (ae ?_))))
  exact⟨k+1,by omega,[oI z3 122 [(.slice (aD z2) ls.length ls.length),nS],ak (aD z2) ls.length 3 1 (aQ (se nb (k+1))),oI z1 122 [nS,nS]],(by exact Sub.d (.k (.k (.k .z)))),F,by omega,(.of F)⟩
 have nW: ¬k<ls.length:=by omega
 refine bn ?_
 refine ax (ai (ah F (ad (aP F) (ad (bG gy F bP F F (aB ho.bx) (by first|omega|(simp;done)|(simp;omega)|(simp_all;done)|(simp_all;omega))) (ad (bS bT F F (aB ho.bx) (by rw[hfv];rfl)) (ad (bL bT F) (ah F (ae (aC ?_)))))))))
 have SA:k=ls.length:=by omega
 subst SA
 refine T.dt 169 3 ?_
 refine cu (O':=[oI z3 122 [(.slice (aD z2) nb.length ls.length),(.slice none (([]:List CR).length) 0)],ak none 0 169 3 (cz ([]:List CR)),ak (aD z2) ls.length 3 1 (aQ nb),oI z1 122 [nS,nS]]++eR 173 []) (by
  rw[show se nb ls.length=nb by rw[←DE,Ep],DE]
  exact(au [1,0,0,0] F)) ?_
 refine cE (fun(i:Nat) ρ O=> ∃(cb:Option Addr) (cc:Nat) (l:List CR) (p:List OB),O=([oI z3 122 [(.slice (aD z2) nb.length ls.length),(.slice cb l.length cc)],ak cb cc 169 3 (cz l),ak (aD z2) ls.length 3 1 (aQ nb),oI z1 122 [nS,nS]]++(eR 173 p))∧i≤first.length∧l.map CR.cf=((first.take i).flatMap fun k=>ft ls (2*ls.length) nb k []).foldl add []∧jO ls l p∧bZ [(0,(du (aD ob) 0)),(2,(.pointer (aD z1))),(3,(.pointer (aD z3))),(36,(.slice fb first.length fc)),(37,vI (first.length:Int)),(38,vI ((i:Nat):Int))] ρ) (fun i=>first.length-i) 0 ?_ ?_
 ·exact⟨none,0,[],[],F,Nat.zero_le _,F,⟨by simp,List.nodup_nil,by simp⟩,(.of F)⟩
 rintro i ρ O ⟨cb,cc,l,p,rfl,hi,hm,hS,hH⟩
 obtain⟨eP,rfl⟩:=hH.elim
 clear hH
 refine ai (ad (bI F F) (ae (ax (aw F (fun hc=>?_) (fun hc=>?_)))))
 ·have x5:i<first.length:=by omega
  refine aq (ax (aC (ai (ad (cq (i:=i) bT aM F F (aB j8) x5 (by rw[List.length_map];exact x5)) (ad (bS dh F F (aB j8) (eK x5)) (TO.qa F (ae (aH (ah F (ah F ?_))))))))))
  have uT:=(o_.frame ((C9 w ob lb lc cv fv ls ks ho vs hG hK wa z3 (aD z2) ls.length ls.length nb (by rw[AC];exact pg hG) (2*ls.length)).1 first[i] ⟨none,0,[]⟩ (hf _ (List.getElem_mem x5)) (by omega) .nil) [oI z1 122 [nS,nS]] (O:=[oI z3 122 [(.slice (aD z2) nb.length ls.length),(.slice cb l.length cc)],ak cb cc 169 3 (cz l),ak (aD z2) ls.length 3 1 (aQ nb),oI z1 122 [nS,nS]]) cb cc l p hS (.inr F) (by exact Sub.rf))
  refine aj F (aI ID uT F ?_)
  clear uT
  rintro vr O' ⟨LD,LF,l3,p3,rfl,rfl,LG,Gt,Az⟩
  refine ae (aH (ad (cj (a:=i) (b:=1) F F (by omega)) (ah F (ae ?_))))
  exact⟨i+1,by omega,_,a_ (List.Sublist.refl _),LD,LF,l3,p3,F,by omega,by rw[List.take_succ_eq_append_getElem x5,List.flatMap_append,List.foldl_append,←hm,LG];simp,Gt,(.of F)⟩
 have T6: ¬i<first.length:=by omega
 refine bn ?_
 refine ai (ad (cN 0 iC F fe F F F) (aj F (bj (vs:=[(.slice (aD z2) nb.length ls.length),(.slice cb l.length cc)]) 3 fe F F F F ?_)))
 refine ae (az (ao ?_))
 refine bf (i:=3) Tryz.results75 iC F fe F F F ?_
 have sO:i=first.length:=by omega
 subst sO
 rw[List.take_length]at hm
 exact⟨[ak (aD z2) ls.length 3 1 (aQ nb),ak cb cc 169 3 (cz l)]++eR 173 p,(by exact Sub.d (.dL [ak cb cc 169 3 (cz l)] _ (.k (.d .rf)))),(aD z2),ls.length,ls.length,cb,cc,l,p,by rw[←AC];rfl,by rw[←AC],by rw[hm,←AC],hS⟩
end Go.Proofs.YtgdbfideeeegmaaGreatDoor

namespace Go.Proofs.YtgdbfideeeegmaaGreatDoor
open Go.Lx Go.RowKit _root_.Go.Proofs.Tryz
theorem Da {ls:List Lf} {vs:Nat} (hG:gU ls vs) {x:Nat} (hx:x<2^vs) {m:Nat} {o:List Ob} (hm:m≤ls.length) (h:eE ls m o) {j:Nat} (hj:j<o.length):eE ls o[j].1 (lT ls (o.take j) x):=by
 have h1:=h.2 _ (List.getElem_mem hj)
 refine sX hG hx (by omega) (m:=0) .nil (h.1.sublist (List.take_sublist j o)) (fun p hp=>?_) (Nat.zero_le _)
 obtain⟨i,hi,rfl⟩:=List.mem_iff_getElem.1 hp
 rw[List.length_take]at hi
 rw[List.getElem_take]
 exact⟨Nat.zero_le _,(List.pairwise_iff_getElem.1 h.1) i j (by omega) hj (by omega),(h.2 _ (List.getElem_mem _)).2⟩
theorem Db {ls:List Lf} {x:Nat} {o:List Ob} {j:Nat} (hj:j<o.length):lT ls (o.take (j+1)) x=sd ls (lT ls (o.take j) x) (o[j].1,dJ (lf ls o[j].1).d o[j].2 x):=by
 unfold lT;rw[List.take_succ_eq_append_getElem hj,List.foldl_append];rfl
theorem P9 (w:World) [cG Tryz.prog w] (ob:Nat) (lb:Option Addr) (lc:Nat) (cv fv:Value) (ls:List Lf) (ks:List LK) (ho:jK w ob lb lc cv fv ls ks) (vs:Nat) (hG:gU ls vs) {K:Nat} (hK:p7 ls K) (wa:K<1099511627776) (x:Nat) (hx:x<2^vs) (gm:vs≤6) (b0:List Nat) (sb:Option Addr) (sc:Nat) (YR:Sl w sb (aQ b0)) (An:n6 ls b0) (l0:List CR) (tb:Option Addr) (tc:Nat) (Rc:Sl w tb (cz l0)) (hg: ∀y∈l0,im ls y.cf) (jT:(l0.map CR.cf).Nodup) (Cb: ∀y∈l0,Sl w y.r.b (ei y.r.o)):
  bs Tryz.prog 77 [(du (aD ob) 0),.agg #[.slice sb b0.length sc,.slice tb l0.length tc],v8 x] w fun v N=> ∃bb bc kK cb cc l p,v=.agg #[.slice bb (kY ls b0 x).length bc,.slice cb l.length cc]∧N=[ak bb kK 3 1 (aQ (kY ls b0 x)),ak cb cc 169 3 (cz l)]++eR 173 p∧l.map CR.cf=((l0.map CR.cf).flatMap (iN ls (kY ls b0 x) x)).foldl add []∧jO ls l p:=by
 refine av func77 F ntmps77 F ?_
 have ie:=hG.len
 obtain⟨nb,AC⟩: ∃l:List Nat,l=kY ls b0 x:=⟨_,F⟩
 have Xc:=we hG An hx
 rw[←AC]at Xc
 have DE:nb.length=ls.length:=Xc.len
 have Xd:=An.len
 have DG:l0.length≤K:=by
  have:=hK (l0.map CR.cf) jT fun c hc=>by obtain⟨y,hy,rfl⟩:=List.mem_map.1 hc;exact hg y hy
  simpa using this
 have YS:x<256:=Nat.lt_of_lt_of_le hx (Nat.pow_le_pow_right (by decide) (show vs≤8 by omega))
 refine ai (aj F (cL (cs:=[(.slice sb b0.length sc),(.slice tb l0.length tc)]) F F (fun z1=>?_)))
 refine aj F (aR fe F (fun z2=>?_))
 refine ae (ai (ad (aJ iC F bP F F) (ad (aO 1 bT F F F F) (ad (bL bT F) (aj F (bV (m:=b0.length) bT aM F F (by omega) (by omega) (fun z3=>?_)))))))
 refine ad (bE (cs:=[(.slice (aD z3) b0.length b0.length),nS]) Er fe (by kernel_rfl)) (aj F (aR fe F (fun z4=>?_)))
 refine aj F (bj (vs:=[(.slice (aD z3) b0.length b0.length),nS]) 0 fe F F F F ?_)
 refine ae (ax (ai (ah F (ad (aP F) (ad (bG gy F gj F F (aB ho.bx) (by first|omega|(simp;done)|(simp;omega)|(simp_all;done)|(simp_all;omega))) (ad (bS eF F F (aB ho.bx) F) (ad (bL eF F) (ah F (ae (aC ?_))))))))))
 refine cE (fun(k:Nat) ρ O=>O=[oI z4 122 [(.slice (aD z3) b0.length b0.length),nS],ak (aD z3) b0.length 3 1 (aQ (se nb k)),oI z2 122 [nS,nS],oI z1 122 [(.slice sb b0.length sc),(.slice tb l0.length tc)]]∧k≤ls.length∧bZ [(0,(du (aD ob) 0)),(1,(.agg #[(.slice sb b0.length sc),(.slice tb l0.length tc)])),(2,v8 x),(4,(.pointer (aD z1))),(6,(.pointer (aD z2))),(7,(.pointer (aD z4))),(25,(.slice lb ls.length lc)),(26,vI (ls.length:Int)),(27,vN k)] ρ) (fun k=>ls.length-k) 0 ?_ ?_
 ·exact⟨by rw[Bn,DE,←Xd,show aQ (List.replicate b0.length 0)=List.replicate b0.length (vI 0) by simp];rfl,Nat.zero_le _,(.of F)⟩
 rintro k ρ O ⟨rfl,hk,hH⟩
 obtain⟨eP,rfl⟩:=hH.elim
 clear hH
 refine ai (ad (bI F F) (ae (ax (aw F (fun hc=>?_) (fun hc=>?_)))))
 ·have ph:k<ls.length:=by omega
  refine aq (ax (aC (ai (ah F (ad (db (i:=k) eF dZ F F (aB ho.rw) ph (by rw[cX ho.kl];omega)) (ad (dT (vs:=[v8 ((lf ls k).op),vI (lf ls k).d.vars,vN ((lf ls k).d.start.toNat),(.slice (lk ks k).k.nb ((lf ls k).d.next.length) ((lk ks k).k.nc)),(.slice (lk ks k).k.fb ((lf ls k).d.aA.length) ((lk ks k).k.fc)),(.slice (lk ks k).b ((lf ls k).fo.length) ((lk ks k).c)),.bool (lf ls k).la]) gq F dZ F F (Nat.succ_pos _) (aB ho.rw) (ni ho.kl ph (hG.iZ ph).s0)) (aj F (aR dZ F (fun z5=>?_)))))))))
  refine TO.qa F (aj F (bj (vs:=[v8 ((lf ls k).op),vI (lf ls k).d.vars,vN ((lf ls k).d.start.toNat),(.slice (lk ks k).k.nb ((lf ls k).d.next.length) ((lk ks k).k.nc)),(.slice (lk ks k).k.fb ((lf ls k).d.aA.length) ((lk ks k).k.fc)),(.slice (lk ks k).b ((lf ls k).fo.length) ((lk ks k).c)),.bool (lf ls k).la]) 0 dZ F F F F ?_))
  refine ae (ai (ad (aJ gq F cP F F) (ad (aO 0 eC F F F F) (ad (bo F F) (ae (aw F (fun hc=>?_) (fun hc=>?_)))))))
  ·have kV:(lf ls k).op=10:=by omega
   have IE:(lf ls k).op=10:=by omega
   have nL:b0.getD k 0<(lf ls k).d.next.length:=An.lt k ph
   obtain⟨v1,c1,g1,s1⟩:=(ho.dk _ ph).rows.get nL
   have uw:(lf ls k).d.next[b0.getD k 0].length=cJ (lf ls k).d:=(hG.iZ ph).len _ (List.getElem_mem nL)
   have xI:x<cJ (lf ls k).d:=by unfold cJ;rw[hG.vars _ (jj ph)];exact hx
   have T7:x<(lf ls k).d.next[b0.getD k 0].length:=by rw[uw];exact xI
   refine dO [(0,0),(1,0),(2,0),(3,0),(4,0),(5,0),(6,0),(7,0),(8,0),(9,0),(10,0),(11,0),(12,0),(13,0),(14,0),(15,0),(16,0),(17,2)] ?_
   refine am F (aJ iC F bP F F) (am F (aO 1 bT F F F F) (am F (aF F) (am F (aJ gq F aX F F) (am F (aJ cy F cU F F) (am F (aO 0 dB F F F F) (am F (aJ iC F bP F F) (am F (aO 4 bT F F F F) (am F (aF F) (am F (cq (i:=k) bT aM F F (aB YR) (by omega) (by rw[List.length_map];omega)) (am F (bS dh F F (aB YR) (j5 (by omega))) (am F (cq (i:=(b0.getD k 0)) dB bP F F (aB (ho.dk _ ph).outer) nL ((ho.dk _ ph).rows.1▸nL)) (am F (bS bT F F (aB (ho.dk _ ph).outer) g1) (am F (aF F) (am F (cq (i:=x) bT aM F F (aB s1) T7 (by rw[List.length_map];exact T7)) (am F (bS dh F F (aB s1) (uP (hG.iZ ph) nL xI)) (am F (cq (i:=k) bT aM F F (cw (mG 2 F)) (by first|omega|(rw[pM (by omega)];omega)) (by first|omega|(rw[List.length_map,pM (by omega)];omega))) ?_))))))))))))))))
   refine bq F F (jW (j:=k) (v:=vN (dJ (lf ls k).d (b0.getD k 0) x)) (vs:=[(vN (dJ (lf ls k).d (b0.getD k 0) x))]) (cs:=aQ (se nb k)) 2 aM F F F F F (by simp) F (by rw[List.length_map,pM (by omega)];simp;omega) ?_)
   refine de (O':=[oI z5 118 [v8 ((lf ls k).op),vI (lf ls k).d.vars,vN ((lf ls k).d.start.toNat),(.slice (lk ks k).k.nb ((lf ls k).d.next.length) ((lk ks k).k.nc)),(.slice (lk ks k).k.fb ((lf ls k).d.aA.length) ((lk ks k).k.fc)),(.slice (lk ks k).b ((lf ls k).fo.length) ((lk ks k).c)),.bool (lf ls k).la],oI z4 122 [(.slice (aD z3) b0.length b0.length),nS],ak (aD z3) b0.length 3 1 (aQ (se nb (k+1))),oI z2 122 [nS,nS],oI z1 122 [(.slice sb b0.length sc),(.slice tb l0.length tc)]]) (by rw[show dl (aQ (se nb k)) k [(vN (dJ (lf ls k).d (b0.getD k 0) x))]=aQ (se nb (k+1))from(by rw[←y9 (by omega),show nb[k]=dJ (lf ls k).d (b0.getD k 0) x by simp only[AC,kY,List.getElem_map,List.getElem_range];rw[if_pos IE]];simp[dl])];exact a_ (List.Sublist.refl _)) ?_
   refine bu ?_
   refine aH (ad (cj (a:=k) (b:=1) F F (by omega)) (ah F (ae ?_)))
   exact⟨k+1,by omega,[oI z4 122 [(.slice (aD z3) b0.length b0.length),nS],ak (aD z3) b0.length 3 1 (aQ (se nb (k+1))),oI z2 122 [nS,nS],oI z1 122 [(.slice sb b0.length sc),(.slice tb l0.length tc)]],(by exact Sub.d (.k (.k (.k (.k .z))))),F,by omega,(.of F)⟩
  have Ms: ¬(lf ls k).op=10:=by omega
  have IE: ¬(lf ls k).op=10:=by omega
  refine aq (aH (ad (cj (a:=k) (b:=1) F F (by omega)) (ah F (ae ?_))))
  have Ka:se nb (k+1)=se nb k:=IG (by omega) (by simp only[AC,kY,List.getElem_map,List.getElem_range];rw[if_neg IE])
  exact⟨k+1,by omega,[oI z4 122 [(.slice (aD z3) b0.length b0.length),nS],ak (aD z3) b0.length 3 1 (aQ (se nb k)),oI z2 122 [nS,nS],oI z1 122 [(.slice sb b0.length sc),(.slice tb l0.length tc)]],(by exact Sub.d (.k (.k (.k (.k .z))))),by rw[Ka],by omega,(.of F)⟩
 have YT: ¬k<ls.length:=by omega
 refine bn ?_
 refine ax (ai (ad (aJ iC F o8 F F) (ad (aO 3 mz F F F F) (ad (bL mz F) (ah F (ae (aC ?_)))))))
 have SA:k=ls.length:=by omega
 subst SA
 refine T.dt 169 3 ?_
 refine cu (O':=[oI z4 122 [(.slice (aD z3) nb.length b0.length),(.slice none (([]:List CR).length) 0)],ak none 0 169 3 (cz ([]:List CR)),ak (aD z3) b0.length 3 1 (aQ nb),oI z2 122 [nS,nS],oI z1 122 [(.slice sb b0.length sc),(.slice tb l0.length tc)]]++eR 173 []) (by
  rw[show se nb ls.length=nb by rw[←DE,Ep],DE,←Xd]
  exact(au [1,0,0,0,0] F)) ?_
 refine cE (fun(i:Nat) ρ O=> ∃(cb:Option Addr) (cc:Nat) (l:List CR) (p:List OB),O=([oI z4 122 [(.slice (aD z3) nb.length b0.length),(.slice cb l.length cc)],ak cb cc 169 3 (cz l),ak (aD z3) b0.length 3 1 (aQ nb),oI z2 122 [nS,nS],oI z1 122 [(.slice sb b0.length sc),(.slice tb l0.length tc)]]++(eR 173 p))∧i≤l0.length∧l.map CR.cf=(((l0.take i).map CR.cf).flatMap (iN ls nb x)).foldl add []∧jO ls l p∧bZ [(0,(du (aD ob) 0)),(1,(.agg #[(.slice sb b0.length sc),(.slice tb l0.length tc)])),(2,v8 x),(4,(.pointer (aD z1))),(6,(.pointer (aD z2))),(7,(.pointer (aD z4))),(54,(.slice tb l0.length tc)),(55,vI (l0.length:Int)),(56,vN i)] ρ) (fun i=>l0.length-i) 0 ?_ ?_
 ·exact⟨none,0,[],[],F,Nat.zero_le _,F,⟨by simp,List.nodup_nil,by simp⟩,(.of F)⟩
 rintro i ρ O ⟨cb,cc,l,p,rfl,hi,hm,hS,hH⟩
 obtain⟨eP,rfl⟩:=hH.elim
 clear hH
 refine ai (ad (bI F F) (ae (ax (aw F (fun hc=>?_) (fun hc=>?_)))))
 ·have x6:i<l0.length:=by omega
  have VG:=hg _ (List.getElem_mem x6)
  have IH:((l0.take (i+1)).map CR.cf).flatMap (iN ls nb x)=((l0.take i).map CR.cf).flatMap (iN ls nb x)++iN ls nb x l0[i].cf:=by rw[List.take_succ_eq_append_getElem x6,List.map_append,List.flatMap_append];simp only[List.map_cons,List.map_nil,List.flatMap_cons,List.flatMap_nil,List.append_nil]
  refine aq (ax (aC (ai (ad (db (i:=i) mz gV F F (aB Rc) x6 (by rw[nO];omega)) (ad (dT (vs:=[vI l0[i].k,vN (l0[i].s),(.slice l0[i].r.b l0[i].r.o.length l0[i].r.c)]) jR F gV F F (Nat.succ_pos _) (aB Rc) (qR x6)) (aj F (aR gV F (fun z6=>?_))))))))
  refine aj F (bj (vs:=[vI l0[i].k,vN (l0[i].s),(.slice l0[i].r.b l0[i].r.o.length l0[i].r.c)]) 0 gV F F F F ?_)
  refine ae (ax (ai (ad (aJ jR F aM F F) (ad (aO 0 dh F F F F) (ad (bI F F) (ae (aw F (fun hc=>?_) (fun hc=>?_))))))))
  ·have T8:l0[i].k<0:=hc
   refine bn ?_
   refine aH (ad (cj (a:=i) (b:=1) F F (by omega)) (ah F (ae ?_)))
   have e9:iN ls nb x l0[i].cf=[]:=by unfold iN;rw[if_pos (show l0[i].cf.k<0 from T8)]
   exact⟨i+1,by omega,[oI z4 122 [(.slice (aD z3) nb.length b0.length),(.slice cb l.length cc)],ak cb cc 169 3 (cz l),ak (aD z3) b0.length 3 1 (aQ nb),oI z2 122 [nS,nS],oI z1 122 [(.slice sb b0.length sc),(.slice tb l0.length tc)]]++eR 173 p,(by exact Sub.d (.k (.k (.k (.k (.k .rf)))))),cb,cc,l,p,F,by omega,by rw[IH,e9,List.append_nil];exact hm,hS,(.of F)⟩
  obtain⟨kk,x7,n7,nq,P_⟩: ∃k:Nat,l0[i].k=(k:Int)∧k<ls.length∧l0[i].s<(lf ls k).d.next.length∧eE ls k l0[i].r.o:=VG.elim (fun h=>absurd h.1 (by show¬l0[i].k= -1;omega)) id
  have TS:l0[i].r.o.length≤12:=by have:=P_.len;omega
  refine aq (ai (TO.qa F (ae (ax (ai (ad (aJ jR F y4 F F) (ad (aO 0 il F F F F) (ad (bL il F) (ah F (ae (aC ?_)))))))))))
  refine cE (fun(j:Nat) ρ O=> ∃(r3:OB) (p3:List OB),O=([oI z6 169 [vI l0[i].k,vN (l0[i].s),(.slice l0[i].r.b l0[i].r.o.length l0[i].r.c)],oI z4 122 [(.slice (aD z3) nb.length b0.length),(.slice cb l.length cc)],ak cb cc 169 3 (cz l),ak (aD z3) b0.length 3 1 (aQ nb),oI z2 122 [nS,nS],oI z1 122 [(.slice sb b0.length sc),(.slice tb l0.length tc)]]++(eR 173 p3))∧j≤l0[i].r.o.length∧r3.o=lT ls (l0[i].r.o.take j) x∧kG p3 r3∧jO ls l p3∧bZ [(0,(du (aD ob) 0)),(1,(.agg #[(.slice sb b0.length sc),(.slice tb l0.length tc)])),(2,v8 x),(4,(.pointer (aD z1))),(6,(.pointer (aD z2))),(7,(.pointer (aD z4))),(11,(.pointer (aD z6))),(12,(.slice r3.b r3.o.length r3.c)),(54,(.slice tb l0.length tc)),(55,vI (l0.length:Int)),(56,vN i),(64,(.slice l0[i].r.b l0[i].r.o.length l0[i].r.c)),(65,vI (l0[i].r.o.length:Int)),(66,vN j)] ρ) (fun j=>l0[i].r.o.length-j) 0 ?_ ?_
  ·exact⟨⟨none,0,[]⟩,p,F,Nat.zero_le _,F,.inr F,hS,(.of F)⟩
  rintro j ρ O ⟨r3,p3,rfl,hj,Rk,Az,Gt,hH⟩
  obtain⟨eP,rfl⟩:=hH.elim
  clear hH
  refine ai (ad (bI F F) (ae (ax (aw F (fun hc=>?_) (fun hc=>?_)))))
  ·have vJ:j<l0[i].r.o.length:=by omega
   have DS:=P_.2 _ (List.getElem_mem vJ)
   have IJ:l0[i].r.o[j].1<ls.length:=by omega
   have G3:l0[i].r.o[j].2<(lf ls l0[i].r.o[j].1).d.next.length:=DS.2
   obtain⟨v2,c2,g2,s2⟩:=(ho.dk _ IJ).rows.get G3
   have KC:(lf ls l0[i].r.o[j].1).d.next[l0[i].r.o[j].2].length=cJ (lf ls l0[i].r.o[j].1).d:=(hG.iZ IJ).len _ (List.getElem_mem G3)
   have Fe:x<cJ (lf ls l0[i].r.o[j].1).d:=by unfold cJ;rw[hG.vars _ (jj IJ)];exact hx
   have T9:x<(lf ls l0[i].r.o[j].1).d.next[l0[i].r.o[j].2].length:=by rw[KC];exact Fe
   have Xe:=((hG.iZ IJ).toVal.fB G3 Fe).1
   refine aq (ax (aC (ai (ad (db (i:=j) il fG F F (aB (Cb _ (List.getElem_mem x6))) vJ (by rw[iE];omega)) (ad (dT (vs:=[vN (l0[i].r.o[j].1),vN (l0[i].r.o[j].2)]) iY F fG F F (Nat.succ_pos _) (aB (Cb _ (List.getElem_mem x6))) (lS vJ)) (aj F (aR fG F (fun z7=>?_))))))))
   refine aj F (bj (vs:=[vN (l0[i].r.o[j].1),vN (l0[i].r.o[j].2)]) 0 fG F F F F ?_)
   refine ae ?_
   refine dO [(0,0),(1,0),(2,0),(3,0),(4,0),(5,0),(6,0),(7,0),(8,0),(9,0),(10,0),(11,0),(12,0),(13,0),(14,0),(15,0),(16,0),(17,0),(18,0),(19,0),(20,0),(21,0),(22,2),(23,2)] ?_
   refine am F (aF F) (am F (aF F) (am F (ij (i:=0) iY aM F F (by decide)) (am F (aO 0 dh F F F F) (am F (aF F) (am F (aP F) (am F (bG gy F gj F F (aB ho.bx) (by first|omega|(simp;done)|(simp;omega)|(simp_all;done)|(simp_all;omega))) (am F (bS eF F F (aB ho.bx) F) (am F (ij (i:=0) iY aM F F (by decide)) (am F (aO 0 dh F F F F) (am F (db (i:=l0[i].r.o[j].1) eF dZ F F (aB ho.rw) IJ (by rw[cX ho.kl];omega)) (am F (bG gq F aX F F (aB ho.rw) (by rw[cX ho.kl];omega)) (am F (bG cy F cU F F (aB ho.rw) (by rw[cX ho.kl];show _*7+1<_;omega)) (am F (bS dB F F (aB ho.rw) (o9 ho.kl IJ 3 F F)) (am F (ij (i:=1) iY aM F F (by decide)) (am F (aO 0 dh F F F F) (am F (cq (i:=l0[i].r.o[j].2) dB bP F F (aB (ho.dk _ IJ).outer) G3 ((ho.dk _ IJ).rows.1▸G3)) (am F (bS bT F F (aB (ho.dk _ IJ).outer) g2) (am F (aF F) (am F (cq (i:=x) bT aM F F (aB s2) T9 (by rw[List.length_map];exact T9)) (am F (bS dh F F (aB s2) (uP (hG.iZ IJ) G3 Fe)) (am F (rC (cs:=[vN (l0[i].r.o[j].1),vN (dJ (lf ls l0[i].r.o[j].1).d l0[i].r.o[j].2 x)]) iY aM fG (by kernel_rfl)) ?_)))))))))))))))))))))
   have Is:=fun(w1:World) (hI:Inv w ([oI z7 173 [vN (l0[i].r.o[j].1),vN (l0[i].r.o[j].2)],oI z6 169 [vI l0[i].k,vN (l0[i].s),(.slice l0[i].r.b l0[i].r.o.length l0[i].r.c)],oI z4 122 [(.slice (aD z3) nb.length b0.length),(.slice cb l.length cc)],ak cb cc 169 3 (cz l),ak (aD z3) b0.length 3 1 (aQ nb),oI z2 122 [nS,nS],oI z1 122 [(.slice sb b0.length sc),(.slice tb l0.length tc)]]++(eR 173 p3)) w1)=>(haveI:=dp hI;TZ w1 ob lb lc cv fv ls ks (hI.out ho) vs hG r3 (kG.sl hI (fun it di=>List.mem_append_right _ di) Az) (l0[i].r.o[j].1,dJ (lf ls l0[i].r.o[j].1).d l0[i].r.o[j].2 x) l0[i].r.o[j].1 (by rw[Rk];exact Da hG hx (Nat.le_of_lt n7) P_ vJ) (Nat.le_refl _) IJ Xe)
   refine bq F F (aI IF (aE Is) F ?_)
   clear Is
   rintro vr O' ⟨N,rfl,pl,r4,rfl,rfl,hr4,Xf⟩
   have Sg:kG (pl++p3) r4:=by
    rcases Xf with⟨rfl,rfl⟩|rfl
    ·exact Az.mono fun x hx=>by simpa using hx
    ·exact .inl (by simp)
   refine de (O':=([oI z7 173 [vN (l0[i].r.o[j].1),vN (l0[i].r.o[j].2)],oI z6 169 [vI l0[i].k,vN (l0[i].s),(.slice l0[i].r.b l0[i].r.o.length l0[i].r.c)],oI z4 122 [(.slice (aD z3) nb.length b0.length),(.slice cb l.length cc)],ak cb cc 169 3 (cz l),ak (aD z3) b0.length 3 1 (aQ nb),oI z2 122 [nS,nS],oI z1 122 [(.slice sb b0.length sc),(.slice tb l0.length tc)]]++((eR 173 pl)++(eR 173 p3)))) (by exact cQ [] _ (eR 173 pl) (eR 173 p3)) ?_
   refine bq F F (dG F F (cD F) ?_)
   refine bu ?_
   refine aH (ad (cj (a:=j) (b:=1) F F (by omega)) (ah F (ae ?_)))
   exact⟨j+1,by omega,_,(by rw[Bm];exact(by exact Sub.d (.k (.k (.k (.k (.k (.k .rf)))))))),r4,pl++p3,F,by omega,by rw[Db vJ,←Rk,hr4],Sg,Gt.mono fun x hx=>List.mem_append_right _ hx,(.of F)⟩
  have SS: ¬j<l0[i].r.o.length:=by omega
  refine bn ?_
  refine ax ?_
  have hje:j=l0[i].r.o.length:=by omega
  subst hje
  rw[List.take_length]at Rk
  have T_:eE ls kk r3.o:=by rw[Rk];exact wg hG hx (Nat.le_of_lt n7) P_
  obtain⟨v3,c3,g3,s3⟩:=(ho.dk _ n7).rows.get nq
  have Ke:(lf ls kk).d.next[l0[i].s].length=cJ (lf ls kk).d:=(hG.iZ n7).len _ (List.getElem_mem nq)
  have RK:x<cJ (lf ls kk).d:=by unfold cJ;rw[hG.vars _ (jj n7)];exact hx
  have Ua:x<(lf ls kk).d.next[l0[i].s].length:=by rw[Ke];exact RK
  have oX:=((hG.iZ n7).toVal.fB nq RK).1
  refine dO [(0,0),(1,0),(2,0),(3,0),(4,0),(5,0),(6,0),(7,0),(8,1),(9,2)] ?_
  refine am F (aF F) (am F (aP F) (am F (bG gy F gj F F (aB ho.bx) (by first|omega|(simp;done)|(simp;omega)|(simp_all;done)|(simp_all;omega))) (am F (bS eF F F (aB ho.bx) F) (am F (aJ jR F aM F F) (am F (a8 (aO 0 dh F F F F) (v':=vN kk) (by show Value.int _ _=_;rw[x7])) (am F (db (i:=kk) eF dZ F F (aB ho.rw) n7 (by rw[cX ho.kl];omega)) (am F (dT (vs:=[v8 ((lf ls kk).op),vI (lf ls kk).d.vars,vN ((lf ls kk).d.start.toNat),(.slice (lk ks kk).k.nb ((lf ls kk).d.next.length) ((lk ks kk).k.nc)),(.slice (lk ks kk).k.fb ((lf ls kk).d.aA.length) ((lk ks kk).k.fc)),(.slice (lk ks kk).b ((lf ls kk).fo.length) ((lk ks kk).c)),.bool (lf ls kk).la]) gq F dZ F F (Nat.succ_pos _) (aB ho.rw) (ni ho.kl n7 (hG.iZ n7).s0)) ?_)))))))
  refine bJ F F (aR dZ F (fun z8=>⟨by exact Sub.d (.k (.k (.k (.k (.k (.k .rf)))))),?_⟩))
  refine bq F F (bj (vs:=[v8 ((lf ls kk).op),vI (lf ls kk).d.vars,vN ((lf ls kk).d.start.toNat),(.slice (lk ks kk).k.nb ((lf ls kk).d.next.length) ((lk ks kk).k.nc)),(.slice (lk ks kk).k.fb ((lf ls kk).d.aA.length) ((lk ks kk).k.fc)),(.slice (lk ks kk).b ((lf ls kk).fo.length) ((lk ks kk).c)),.bool (lf ls kk).la]) 0 dZ F F F F ?_)
  refine bu ?_
  refine ai (ad (aJ gq F aX F F) (ad (aJ cy F cU F F) (ad (aO 0 dB F F F F) (ad (aJ jR F aM F F) (ad (aO 1 dh F F F F) (ad (cq (i:=l0[i].s) dB bP F F (aB (ho.dk _ n7).outer) nq ((ho.dk _ n7).rows.1▸nq)) (ad (bS bT F F (aB (ho.dk _ n7).outer) g3) (ah F (ad (cq (i:=x) bT aM F F (aB s3) Ua (by rw[List.length_map];exact Ua)) (ad (bS dh F F (aB s3) (uP (hG.iZ n7) nq RK)) (TO.qa F (ae (ai (ah F (ad (aJ jR F aM F F) (ad (a8 (aO 1 dh F F F F) (v':=vN kk) (by show Value.int _ _=_;rw[x7])) (ah F (ah F (ad (bE (cs:=[vN kk,vN (dJ (lf ls kk).d l0[i].s x),(.slice r3.b r3.o.length r3.c)]) y6 gV (by kernel_rfl)) ?_)))))))))))))))))))
  have NB:=P3 w hG hK wa (du (aD ob) 0) z4 (aD z3) b0.length nb [oI z8 118 [v8 ((lf ls kk).op),vI (lf ls kk).d.vars,vN ((lf ls kk).d.start.toNat),(.slice (lk ks kk).k.nb ((lf ls kk).d.next.length) ((lk ks kk).k.nc)),(.slice (lk ks kk).k.fb ((lf ls kk).d.aA.length) ((lk ks kk).k.fc)),(.slice (lk ks kk).b ((lf ls kk).fo.length) ((lk ks kk).c)),.bool (lf ls kk).la],oI z6 169 [vI l0[i].k,vN (l0[i].s),(.slice l0[i].r.b l0[i].r.o.length l0[i].r.c)],ak (aD z3) b0.length 3 1 (aQ nb),oI z2 122 [nS,nS],oI z1 122 [(.slice sb b0.length sc),(.slice tb l0.length tc)]] cb cc l p3 ⟨(kk:Int),dJ (lf ls kk).d l0[i].s x,r3⟩ Gt (.inr ⟨kk,F,n7,oX,T_⟩) Az (O:=[oI z8 118 [v8 ((lf ls kk).op),vI (lf ls kk).d.vars,vN ((lf ls kk).d.start.toNat),(.slice (lk ks kk).k.nb ((lf ls kk).d.next.length) ((lk ks kk).k.nc)),(.slice (lk ks kk).k.fb ((lf ls kk).d.aA.length) ((lk ks kk).k.fc)),(.slice (lk ks kk).b ((lf ls kk).fo.length) ((lk ks kk).c)),.bool (lf ls kk).la],oI z6 169 [vI l0[i].k,vN (l0[i].s),(.slice l0[i].r.b l0[i].r.o.length l0[i].r.c)],oI z4 122 [(.slice (aD z3) nb.length b0.length),(.slice cb l.length cc)],ak cb cc 169 3 (cz l),ak (aD z3) b0.length 3 1 (aQ nb),oI z2 122 [nS,nS],oI z1 122 [(.slice sb b0.length sc),(.slice tb l0.length tc)]]) (by exact Sub.dL [oI z8 118 [v8 ((lf ls kk).op),vI (lf ls kk).d.vars,vN ((lf ls kk).d.start.toNat),(.slice (lk ks kk).k.nb ((lf ls kk).d.next.length) ((lk ks kk).k.nc)),(.slice (lk ks kk).k.fb ((lf ls kk).d.aA.length) ((lk ks kk).k.fc)),(.slice (lk ks kk).b ((lf ls kk).fo.length) ((lk ks kk).c)),.bool (lf ls kk).la],oI z6 169 [vI l0[i].k,vN (l0[i].s),(.slice l0[i].r.b l0[i].r.o.length l0[i].r.c)]] _ (.dL [oI z8 118 [v8 ((lf ls kk).op),vI (lf ls kk).d.vars,vN ((lf ls kk).d.start.toNat),(.slice (lk ks kk).k.nb ((lf ls kk).d.next.length) ((lk ks kk).k.nc)),(.slice (lk ks kk).k.fb ((lf ls kk).d.aA.length) ((lk ks kk).k.fc)),(.slice (lk ks kk).b ((lf ls kk).fo.length) ((lk ks kk).c)),.bool (lf ls kk).la],oI z6 169 [vI l0[i].k,vN (l0[i].s),(.slice l0[i].r.b l0[i].r.o.length l0[i].r.c)]] _ (.k (.k (.k (.k (.k .z)))))))
  refine aj F (aI C8 NB F ?_)
  clear NB
  rintro vr O' ⟨Bk,Bl,l4,rfl,rfl,P5,P6⟩
  refine ae (ai (ad (aJ gq F aX F F) (ad (aJ cy F ce F F) (ad (aO 2 dF F F F F) (ah F (ad (cq (i:=(dJ (lf ls kk).d l0[i].s x)) dF dc F F (aB (ho.dk _ n7).aA) (by rw[(hG.iZ n7).fin];exact oX) (by rw[List.length_map,(hG.iZ n7).fin];exact oX)) (ad (bS oe F F (aB (ho.dk _ n7).aA) (l_ (hG.iZ n7) oX)) (ae (T.cond F (fun hc=>?_) (fun hc=>?_))))))))))
  ·have y8:dK (lf ls kk).d (dJ (lf ls kk).d l0[i].s x)=true:=hc
   refine aH (ah F (ad (aJ jR F aM F F) (ad (a8 (aO 3 dh F F F F) (v':=vN kk) (by show Value.int _ _=_;rw[x7])) (ah F ?_))))
   have Bp:=(o_.frame ((C9 w ob lb lc cv fv ls ks ho vs hG hK wa z4 (aD z3) b0.length b0.length nb Xc (2*ls.length)).2 kk r3 n7 (by omega) (T_.mono (Nat.le_succ _))) [oI z8 118 [v8 ((lf ls kk).op),vI (lf ls kk).d.vars,vN ((lf ls kk).d.start.toNat),(.slice (lk ks kk).k.nb ((lf ls kk).d.next.length) ((lk ks kk).k.nc)),(.slice (lk ks kk).k.fb ((lf ls kk).d.aA.length) ((lk ks kk).k.fc)),(.slice (lk ks kk).b ((lf ls kk).fo.length) ((lk ks kk).c)),.bool (lf ls kk).la],oI z6 169 [vI l0[i].k,vN (l0[i].s),(.slice l0[i].r.b l0[i].r.o.length l0[i].r.c)],oI z2 122 [nS,nS],oI z1 122 [(.slice sb b0.length sc),(.slice tb l0.length tc)]] (O:=[oI z4 122 [(.slice (aD z3) nb.length b0.length),(.slice Bk l4.length Bl)],ak Bk Bl 169 3 (cz l4),oI z8 118 [v8 ((lf ls kk).op),vI (lf ls kk).d.vars,vN ((lf ls kk).d.start.toNat),(.slice (lk ks kk).k.nb ((lf ls kk).d.next.length) ((lk ks kk).k.nc)),(.slice (lk ks kk).k.fb ((lf ls kk).d.aA.length) ((lk ks kk).k.fc)),(.slice (lk ks kk).b ((lf ls kk).fo.length) ((lk ks kk).c)),.bool (lf ls kk).la],oI z6 169 [vI l0[i].k,vN (l0[i].s),(.slice l0[i].r.b l0[i].r.o.length l0[i].r.c)],ak (aD z3) b0.length 3 1 (aQ nb),oI z2 122 [nS,nS],oI z1 122 [(.slice sb b0.length sc),(.slice tb l0.length tc)]]) Bk Bl l4 p3 P6 Az (by exact Sub.k (.k (.dL [oI z8 118 [v8 ((lf ls kk).op),vI (lf ls kk).d.vars,vN ((lf ls kk).d.start.toNat),(.slice (lk ks kk).k.nb ((lf ls kk).d.next.length) ((lk ks kk).k.nc)),(.slice (lk ks kk).k.fb ((lf ls kk).d.aA.length) ((lk ks kk).k.fc)),(.slice (lk ks kk).b ((lf ls kk).fo.length) ((lk ks kk).c)),.bool (lf ls kk).la],oI z6 169 [vI l0[i].k,vN (l0[i].s),(.slice l0[i].r.b l0[i].r.o.length l0[i].r.c)]] _ (.k (.k (.k (.k .z))))))))
   refine aj F (aI y7 Bp F ?_)
   clear Bp
   rintro vr O' ⟨Xg,Xh,l5,p5,rfl,rfl,hm5,hS5,WB⟩
   refine ae (aH (ad (cj (a:=i) (b:=1) F F (by omega)) (ah F (ae ?_))))
   have e9:iN ls nb x l0[i].cf=⟨(kk:Int),dJ (lf ls kk).d l0[i].s x,r3.o⟩::fQ ls (2*ls.length) nb kk r3.o:=by
    unfold iN
    rw[if_neg (show¬l0[i].cf.k<0 from by show¬l0[i].k<0;omega),Rk]
    simp only[CR.cf,x7,Int.toNat_natCast]
    rw[if_pos y8]
   exact⟨i+1,by omega,[oI z4 122 [(.slice (aD z3) nb.length b0.length),(.slice Xg l5.length Xh)],ak Xg Xh 169 3 (cz l5),ak (aD z3) b0.length 3 1 (aQ nb),oI z2 122 [nS,nS],oI z1 122 [(.slice sb b0.length sc),(.slice tb l0.length tc)]]++eR 173 p5,(by exact Sub.k (.k (.k (.d (.d (.k (.k .rf))))))),Xg,Xh,l5,p5,F,by omega,by rw[IH,List.foldl_append,←hm,e9,hm5,P5];rfl,hS5,(.of F)⟩
  have y8: ¬dK (lf ls kk).d (dJ (lf ls kk).d l0[i].s x)=true:=by rw[hc];simp
  refine aq (aH (ad (cj (a:=i) (b:=1) F F (by omega)) (ah F (ae ?_))))
  have e9:iN ls nb x l0[i].cf=⟨(kk:Int),dJ (lf ls kk).d l0[i].s x,r3.o⟩::[]:=by
   unfold iN
   rw[if_neg (show¬l0[i].cf.k<0 from by show¬l0[i].k<0;omega),Rk]
   simp only[CR.cf,x7,Int.toNat_natCast]
   rw[if_neg y8]
  exact⟨i+1,by omega,[oI z4 122 [(.slice (aD z3) nb.length b0.length),(.slice Bk l4.length Bl)],ak Bk Bl 169 3 (cz l4),ak (aD z3) b0.length 3 1 (aQ nb),oI z2 122 [nS,nS],oI z1 122 [(.slice sb b0.length sc),(.slice tb l0.length tc)]]++eR 173 p3,(by exact Sub.k (.k (.d (.d (.k (.k (.k .rf))))))),Bk,Bl,l4,p3,F,by omega,by rw[IH,List.foldl_append,←hm,e9,P5];rfl,P6,(.of F)⟩
 have YU: ¬i<l0.length:=by omega
 refine bn ?_
 refine ai (ad (cN 0 iC F fe F F F) (aj F (bj (vs:=[(.slice (aD z3) nb.length b0.length),(.slice cb l.length cc)]) 3 fe F F F F ?_)))
 refine ae (az (ao ?_))
 refine bf (i:=3) Tryz.results77 iC F fe F F F ?_
 have sO:i=l0.length:=by omega
 subst sO
 rw[List.take_length]at hm
 exact⟨[ak (aD z3) b0.length 3 1 (aQ nb),ak cb cc 169 3 (cz l)]++eR 173 p,(by exact Sub.d (.dL [ak cb cc 169 3 (cz l)] _ (.k (.d (.d .rf))))),(aD z3),b0.length,b0.length,cb,cc,l,p,by rw[←AC];rfl,by rw[←AC],by rw[hm,←AC],hS⟩
end Go.Proofs.YtgdbfideeeegmaaGreatDoor

namespace Go.Proofs
open Go.Shelf
def Tryz.BF:Go.Shelf.Ren:=⟨fun|190=>111|125=>159|258=>158|128=>208|129=>209|302=>199|303=>200|304=>201|305=>202|306=>203|307=>204|308=>205|309=>206|310=>207|333=>225|329=>226|330=>227|334=>228|335=>229|336=>230|344=>254|n=>n,fun|31=>166|9=>9|3=>3|46=>101|0=>0|51=>254|53=>256|4=>4|183=>247|182=>246|131=>161|5=>5|218=>268|222=>272|228=>289|229=>290|n=>n,fun|n=>n⟩
theorem Tryz.EL:Go.Proofs.Lays.n190 Tryz.prog Tryz.BF:= {
 mixed:=by kernel_rfl
 f125:=func159.trans (congrArg some (by kernel_rfl))
 f128:=func208.trans (congrArg some (by kernel_rfl))
 f129:=func209.trans (congrArg some (by kernel_rfl))
 f190:=func111.trans (congrArg some (by kernel_rfl))
 f258:=func158.trans (congrArg some (by kernel_rfl))
 f302:=func199.trans (congrArg some (by kernel_rfl))
 f303:=func200.trans (congrArg some (by kernel_rfl))
 f304:=func201.trans (congrArg some (by kernel_rfl))
 f305:=func202.trans (congrArg some (by kernel_rfl))
 f306:=func203.trans (congrArg some (by kernel_rfl))
 f307:=func204.trans (congrArg some (by kernel_rfl))
 f308:=func205.trans (congrArg some (by kernel_rfl))
 f309:=func206.trans (congrArg some (by kernel_rfl))
 f310:=func207.trans (congrArg some (by kernel_rfl))
 f329:=func226.trans (congrArg some (by kernel_rfl))
 f330:=func227.trans (congrArg some (by kernel_rfl))
 f333:=func225.trans (congrArg some (by kernel_rfl))
 f334:=func228.trans (congrArg some (by kernel_rfl))
 f335:=func229.trans (congrArg some (by kernel_rfl))
 f336:=func230.trans (congrArg some (by kernel_rfl))
 f344:=func254.trans (congrArg some (by kernel_rfl))
 t0:=underlying0
 a0:=Tryz.isAgg0
 z0:=Tryz.sizeOf0
 v0:=Tryz.zeroValue0
 t3:=underlying3
 a3:=Tryz.isAgg3
 z3:=Tryz.sizeOf3
 v3:=Tryz.zeroValue3
 t4:=underlying4
 a4:=Tryz.isAgg4
 z4:=Tryz.sizeOf4
 v4:=Tryz.zeroValue4
 t5:=underlying5
 a5:=Tryz.isAgg5
 z5:=Tryz.sizeOf5
 v5:=Tryz.zeroValue5
 t9:=underlying9
 a9:=Tryz.isAgg9
 z9:=Tryz.sizeOf9
 v9:=Tryz.zeroValue9
 t31:=underlying166
 a31:=Tryz.isAgg166
 z31:=Tryz.sizeOf166
 v31:=Tryz.zeroValue166
 t46:=underlying101
 a46:=Tryz.isAgg101
 z46:=Tryz.sizeOf101
 v46:=Tryz.zeroValue101
 t51:=underlying254
 a51:=Tryz.isAgg254
 z51:=Tryz.sizeOf254
 v51:=Tryz.zeroValue254
 t53:=underlying256
 a53:=Tryz.isAgg256
 z53:=Tryz.sizeOf256
 v53:=Tryz.zeroValue256
 t131:=underlying161
 a131:=Tryz.isAgg161
 z131:=Tryz.sizeOf161
 v131:=Tryz.zeroValue161
 t182:=underlying246
 a182:=Tryz.isAgg246
 z182:=Tryz.sizeOf246
 v182:=Tryz.zeroValue246
 t183:=underlying247
 a183:=Tryz.isAgg247
 z183:=Tryz.sizeOf247
 v183:=Tryz.zeroValue247
 t218:=underlying268
 a218:=Tryz.isAgg268
 z218:=Tryz.sizeOf268
 v218:=Tryz.zeroValue268
 t222:=underlying272
 a222:=Tryz.isAgg272
 z222:=Tryz.sizeOf272
 v222:=Tryz.zeroValue272
 t228:=underlying289
 a228:=Tryz.isAgg289
 z228:=Tryz.sizeOf289
 v228:=Tryz.zeroValue289
 t229:=underlying290
 a229:=Tryz.isAgg290
 z229:=Tryz.sizeOf290
 v229:=Tryz.zeroValue290}
open Go.RowKit Go.Sort Go.Lib in
theorem Tryz.slices_Sort_string (jP off cap:Nat) (ss:List (List UInt8)) (w:World) (hH:Holds encStr w jP off ss.toArray) (QH:jP<w.heap.size) (qo:ss.length<4611686018427387904):
  Calls Tryz.prog 111 #[.slice (some ⟨jP,off,none⟩) ss.length cap] w fun e w'=>
   e=.returned (.tuple #[])∧ ∃n os,w'=grow (putRow encStr (Sort.ahead w n) jP off (ss.mergeSort fun x y=>decide (x≤y)).toArray) os:=Any.slices_Sort_string Tryz.EL jP off cap ss w hH QH qo
end Go.Proofs
namespace Go.Lx
open Go.RowKit Go.Sort Go.Proofs
def strs (l:List Key):List Value:=l.map str
theorem wh (l:List Key):(strs l).length=l.length:=List.length_map _
theorem IL {l:List Key} {i:Nat} (h:i<l.length):(strs l)[i]? =some (str l[i]):=by unfold strs;rw[List.getElem?_map,List.getElem?_eq_getElem h];rfl
theorem Inv.L2 {base w:World} {O:List Lx.Item} {i jP off cap:Nat} {T:TypeId} {zs ys:List Key} (hI:Inv base O w) (hO:O[i]? =some (ak (some ⟨jP,off,none⟩) cap T 1 (strs zs))) (hl:ys.length=zs.length) (n:Nat) (os:Array Obj):
  Inv base (O.set i (ak (some ⟨jP,off,none⟩) cap T 1 (strs ys))) (Go.Sort.grow (putRow encStr (Sort.ahead w n) jP off ys.toArray) os):=by
 obtain⟨_,full,hb,mj,KD,Gv⟩:=hI.row hO
 have eU:jP<w.heap.size:=(Array.getElem?_eq_some_iff.1 hb).1
 have wA:(Go.Sort.grow (putRow encStr (Sort.ahead w n) jP off ys.toArray) os).heap=(w.heap.modify jP (onCells (putCells encStr off ys.toArray)))++os:=rfl
 refine hI.qq hO F F F ?_ (fun b Sh hk=>?_) ⟨F,putCells encStr off ys.toArray full,?_,?_,?_,fun j hj=>?_⟩ (fun k hk=>.inl hk) (by simp[ak])
 ·rw[wA];simp
 ·rw[wA,Array.getElem?_append_left (by simpa using Sh),Array.getElem?_modify,if_neg (fun e=>hk (by simp[ak,e]))]
 ·rw[wA,Array.getElem?_append_left (by simpa using eU),Array.getElem?_modify,if_pos F,hb];rfl
 ·simp only[wh]at mj⊢;omega
 ·rw[qj];exact KD
 ·have qB:j<ys.length:=by simpa[strs]using hj
  have Xx:zs.length≤cap*1:=by simpa[strs]using mj
  have Xy:off+cap*1≤full.size:=KD
  show(putCells encStr off ys.toArray full)[off+j]? =_
  rw[tU _ _ _ _ (by simpa using qB) (by omega),show(strs ys)[j]=str ys[j] by simp[strs]]
  simp[qB];rfl
theorem Do {base w:World} {O:List Lx.Item} {i jP off cap:Nat} {T:TypeId} {zs:List Key} (hI:Inv base O w) (hO:O[i]? =some (ak (some ⟨jP,off,none⟩) cap T 1 (strs zs))):Holds encStr w jP off zs.toArray∧jP<w.heap.size:=by
 obtain⟨_,full,hb,mj,KD,Gv⟩:=hI.row hO
 refine⟨fun j hj=>?_,(Array.getElem?_eq_some_iff.1 hb).1⟩
 have qB:j<zs.length:=by simpa using hj
 have h9:=Gv j (by simpa[strs]using qB)
 rw[show(strs zs)[j]'(by simpa[strs]using qB)=str zs[j] by simp[strs]]at h9
 constructor
 ·simp only[World.cell?,hb]
  simp at h9
  simp[h9,qB];rfl
 ·simp[World.frozen?,hb]
end Go.Lx
namespace Go.Proofs.YtgdbfideeeegmaaGreatDoor
open Go.Lx Go.RowKit Go.Proofs Go.Sort _root_.Go.Proofs.Tryz
theorem IK (base:World) (b:Option Addr) (c:Nat) (zs:List Key) (qo:zs.length<4611686018427387904):bw Tryz.prog base 111 [.slice b zs.length c] [ak b c 9 1 (strs zs)] (fun v O'=>v=.tuple #[]∧O'=[ak b c 9 1 (strs (zs.mergeSort uF))]):=fun w M hI=>by
 have hO:(([ak b c 9 1 (strs zs)]++M:List Lx.Item))[0]? =some (ak b c 9 1 (strs zs)):=rfl
 cases b with
 |none=>
  have hz:zs=[]:=by have h:=(hI.row hO).1;simpa[strs]using h
  subst hz
  refine(Any.slices_Sort_string_none Tryz.EL none c w).mono ?_
  rintro e w' ⟨rfl,rfl⟩
  refine⟨_,_,F,?_,F,F⟩
  have h9:([]:List Key).mergeSort uF=[]:=by simp
  rw[h9];exact hI
 |some a=>
  obtain⟨jP,off,sp⟩:=a
  have wT:sp=none:=(hI.row hO).1
  subst wT
  obtain⟨hH,hb⟩:=Do hI hO
  refine(Tryz.slices_Sort_string jP off c zs w hH hb qo).mono ?_
  rintro e w' ⟨rfl,n,os,rfl⟩
  refine⟨_,_,F,?_,F,F⟩
  exact hI.L2 (ys:=zs.mergeSort uF) hO (List.length_mergeSort zs) n os
end Go.Proofs.YtgdbfideeeegmaaGreatDoor

namespace Go.Proofs.YtgdbfideeeegmaaGreatDoor
open Go.Lx Go.RowKit _root_.Go.Proofs.Tryz
theorem LL (w:World) [cG Tryz.prog w] (y:CR):
  bs Tryz.prog 117 [(.agg #[vI y.k,vN y.s,(.slice y.r.b y.r.o.length y.r.c)])] w fun v N=>v=.bool (decide (y.cf.k<0)&&y.cf.o.isEmpty)∧N=[]:=by
 refine av func117 F ntmps117 F ?_
 refine ai (aj F (cL (cs:=[vI y.k,vN y.s,(.slice y.r.b y.r.o.length y.r.c)]) F F (fun uz=>?_)))
 refine TO.qa F (ae (ai (ad (aJ jR F aM F F) (ad (aO 0 dh F F F F) (ad (bI F F) ?_)))))
 by_cases hk:y.k<0
 ·refine ad (ar (aF F) (decide_eq_true hk)) ?_
  refine ap F F (aJ jR F y4 F F) (ap F F (aO 0 il F F F F) (ap F F (bL il F) (ap F F (bo F F) (ad (bt F F) (TO.qa F (ae (az (ao ?_))))))))
  refine aG (.bool (decide ((y.r.o.length:Int)=0))) Tryz.results117 F ?_
  exact⟨[],Sub.z,congrArg Value.bool (by show _=(decide (y.k<0)&&y.r.o.isEmpty);rw[decide_eq_true hk,Bool.true_and];cases y.r.o<;>simp<;>omega),F⟩
 refine ad (ar (aF F) (decide_eq_false hk)) (ay F F (ay F F (ay F F (ay F F (ad (aZ F F) (TO.qa F (ae (az (ao ?_)))))))))
 refine aG (.bool false) Tryz.results117 F ?_
 exact⟨[],Sub.z,congrArg Value.bool (by show _=(decide (y.k<0)&&y.r.o.isEmpty);rw[decide_eq_false hk,Bool.false_and]),F⟩
theorem LM (w:World) [cG Tryz.prog w] (ov:Value) (bh:List Nat) (bv:Value) (cb:Option Addr) (cc:Nat) (l:List CR) (hl:Sl w cb (cz l)) (hK:l.length<137438953472):
  bs Tryz.prog 78 [ov,(.agg #[bv,(.slice cb l.length cc)])] w fun v N=>v=.bool (qL ⟨bh,l.map CR.cf⟩)∧N=[]:=by
 refine av func78 F ntmps78 F ?_
 refine ai (aj F (cL (cs:=[bv,(.slice cb l.length cc)]) F F (fun z1=>?_)))
 refine TO.qa F (ae (ai (ad (aJ iC F o8 F F) (ad (aO 0 mz F F F F) ?_))))
 have A7:=fun(w1:World) (hI:Inv w [oI z1 122 [bv,(.slice cb l.length cc)]] w1)=>(haveI:=dp hI;(show bs _ _ _ _ (fun v N=>v=Value.bool (qL ⟨bh,l.map CR.cf⟩)∧N=[])from by
   have h9:=o7 w1 cb cc l (hI.sl hl) (by omega) ((.func (.func 117) #[] #[])) (fun y=>decide (y.cf.k<0)&&y.cf.o.isEmpty) (fun y hy=>b_ (first:=[]) (args:=[(.agg #[vI y.k,vN y.s,(.slice y.r.b y.r.o.length y.r.c)])]) (fK:=[]) Qa (LL w1 y))
   have e9:(l.any fun y=>decide (y.cf.k<0)&&y.cf.o.isEmpty)=qL ⟨bh,l.map CR.cf⟩:=by unfold qL;rw[List.any_map];rfl
   rw[e9]at h9
   exact h9))
 refine aj F (aI Ix (aE A7) F ?_)
 clear A7
 rintro vr O' ⟨N,rfl,rfl,rfl⟩
 refine TO.qa F (ae (az (ao ?_)))
 refine aG (.bool (qL ⟨bh,l.map CR.cf⟩)) Tryz.results78 F ?_
 exact⟨[],Sub.z,F,F⟩
theorem Bq {α β:Type} {B:Nat} {f:α→List β}: ∀ {l:List α},(∀x∈l,(f x).length≤B)→(l.flatMap f).length≤B*l.length
 | [],_=>by simp
 |x::l,h=>by
  have h1:=h x (by simp);have h2:=Bq (l:=l) fun y hy=>h y (by simp[hy])
  rw[List.flatMap_cons,List.length_append,List.length_cons,Nat.mul_succ];omega
theorem Ub (w:World) [cG Tryz.prog w] (ov:Value) (bb:Option Addr) (bc:Nat) (bh:List Nat) (hbb:Sl w bb (aQ bh)) (Xd:bh.length≤12) (YV: ∀n∈bh.map (fun y:Nat=>(y:Int)),lg n) (cb:Option Addr) (cc:Nat) (l:List CR) (hl:Sl w cb (cz l)) (hK:l.length<137438953472) {ls:List Lf} {vs:Nat} (hG:gU ls vs) (hg: ∀y∈l,im ls y.cf) (DS: ∀y∈l,y.r.o.length≤12) (Cb: ∀y∈l,Sl w y.r.b (ei y.r.o)):
  bs Tryz.prog 76 [ov,(.agg #[(.slice bb bh.length bc),(.slice cb l.length cc)])] w fun v N=>v=str (St.key ⟨bh,l.map CR.cf⟩)∧N=[]:=by
 refine av func76 F ntmps76 F ?_
 refine ai (aj F (cL (cs:=[(.slice bb bh.length bc),(.slice cb l.length cc)]) F F (fun z1=>?_)))
 refine TO.qa F (ae (ai (TO.qa F (ae (ax (ai (ad (aJ iC F o8 F F) (ad (aO 0 mz F F F F) (ad (bL mz F) (ah F (ae (aC (T.dt 9 1 ?_)))))))))))))
 refine cE (fun(i:Nat) ρ O=> ∃(kb:Option Addr) (kc:Nat),O=[ak kb kc 9 1 (strs ((l.take i).map fun y=>y.cf.key)),oI z1 122 [(.slice bb bh.length bc),(.slice cb l.length cc)]]∧i≤l.length∧bZ [(1,(.agg #[(.slice bb bh.length bc),(.slice cb l.length cc)])),(3,(.pointer (aD z1))),(4,(str [])),(5,(.slice kb i kc)),(12,(.slice cb l.length cc)),(13,vI (l.length:Int)),(14,vN i)] ρ) (fun i=>l.length-i) 0 ?_ ?_
 ·exact⟨none,0,F,Nat.zero_le _,(.of F)⟩
 rintro i ρ O ⟨kb,kc,rfl,hi,hH⟩
 obtain⟨eP,rfl⟩:=hH.elim
 clear hH
 refine ai (ad (bI F F) (ae (ax (aw F (fun hc=>?_) (fun hc=>?_)))))
 ·have oq:i<l.length:=by omega
  have VG:=hg _ (List.getElem_mem oq)
  refine aq (ax (aC (ai (ad (db (i:=i) mz gV F F (aB hl) oq (by rw[nO];omega)) (ad (dT (vs:=[vI l[i].k,vN (l[i].s),(.slice l[i].r.b l[i].r.o.length l[i].r.c)]) jR F gV F F (Nat.succ_pos _) (aB hl) (qR oq)) (aj F (aR gV F (fun z2=>?_))))))))
  refine aj F (bj (vs:=[vI l[i].k,vN (l[i].s),(.slice l[i].r.b l[i].r.o.length l[i].r.c)]) 0 gV F F F F ?_)
  refine ae (aH (ah F (ad (cN 0 jR F gV F F F) ?_)))
  have lJ:=fun(w1:World) (hI:Inv w [oI z2 169 [vI l[i].k,vN (l[i].s),(.slice l[i].r.b l[i].r.o.length l[i].r.c)],ak kb kc 9 1 (strs ((l.take i).map fun y=>y.cf.key)),oI z1 122 [(.slice bb bh.length bc),(.slice cb l.length cc)]] w1)=>(haveI:=dp hI;C4 w1 l[i].k l[i].s l[i].r (hI.sl (Cb _ (List.getElem_mem oq))) (VG.num hG) (VG.PN hG))
  refine aj F (aI C5 (aE lJ) F ?_)
  clear lJ
  rintro vr O' ⟨N,rfl,rfl,rfl⟩
  refine aj F (bN (v:=str l[i].cf.key) Br CG F F F (fun z3=>?_))
  refine aj F (bX 2 Br Br CG F F F F (by rw[wh,List.length_map,List.length_take];omega) (by decide) (Src.row (j:=0) F (by simp)) (by rfl) (by omega) (by decide) (by decide) (fun z4 CO=>?_))
  refine TO.qa F (ae (aH (ad (cj (a:=i) (b:=1) F F (by omega)) (ah F (ae ?_)))))
  exact⟨i+1,by omega,[ak z4 CO 9 1 ((strs ((l.take i).map fun y=>y.cf.key))++[str l[i].cf.key]),oI z1 122 [(.slice bb bh.length bc),(.slice cb l.length cc)]],(by exact Sub.d (.d (.k (.k .z)))),z4,CO,by rw[List.take_succ_eq_append_getElem oq,List.map_append];simp[strs],by omega,(.of F)⟩
 have Mz: ¬i<l.length:=by omega
 refine bn ?_
 refine ai (ah F ?_)
 have ng:=(show bw _ _ _ _ _ (fun v O'=> ∃A',O'=A'++[oI z1 122 [(.slice bb bh.length bc),(.slice cb l.length cc)]]∧(v=Value.tuple #[]∧A'=[ak kb kc 9 1 (strs ((l.map fun y=>y.cf.key).mergeSort uF))]))from by
   have h9:=IK w kb kc ((l.take i).map fun y=>y.cf.key) (by rw[List.length_map,List.length_take];omega)
   rw[List.length_map,List.length_take,Nat.min_eq_left hi]at h9
   have e9:(l.map fun y=>y.cf.key).mergeSort uF=((l.take i).map fun y=>y.cf.key).mergeSort uF:=by rw[List.take_of_length_le (show l.length≤i by omega)]
   rw[e9]
   exact h9.under (B:=[oI z1 122 [(.slice bb bh.length bc),(.slice cb l.length cc)]]) (by exact Sub.rf))
 refine aj F (aI Qb ng F ?_)
 clear ng
 rintro vr O' ⟨A1,rfl,rfl,rfl⟩
 refine ae (ai (ad (aJ iC F bP F F) (ad (aO 1 bT F F F F) ?_)))
 have Be:=fun(w1:World) (hI:Inv w [ak kb kc 9 1 (strs ((l.map fun y=>y.cf.key).mergeSort uF)),oI z1 122 [(.slice bb bh.length bc),(.slice cb l.length cc)]] w1)=>(haveI:=dp hI;(show bs _ _ _ _ (fun v N=> ∃b' c',v=Value.slice b' (gB (bh.map fun y:Nat=>(y:Int))).length c'∧N=[ak b' c' 5 1 (cd (gB (bh.map fun y:Nat=>(y:Int))))])from by
   have h9:=Eg w1 bb bc (bh.map fun y:Nat=>(y:Int)) (by rw[e7];exact hI.sl hbb) YV (by rw[List.length_map];omega)
   rw[List.length_map]at h9
   exact h9))
 refine aj F (aI sS (aE Be) F ?_)
 clear Be
 rintro vr O' ⟨N,rfl,jb,jc,rfl,rfl⟩
 
 refine TO.qa F (ae (ax (ai (ah F (ad (bL Br F) (ah F (ae (aC ?_))))))))
 obtain⟨ks,nq⟩: ∃k,k=(l.map fun y=>y.cf.key).mergeSort uF:=⟨_,F⟩
 have n7:ks.length=l.length:=by rw[nq,List.length_mergeSort,List.length_map]
 have sO:i=l.length:=by omega
 have Ed: ∀k∈ks,k.length≤400:=fun k hk=>by
  rw[nq]at hk
  obtain⟨y,hy,rfl⟩:=List.mem_map.1 ((List.mem_mergeSort).1 hk)
  have h1:=nK ((hg y hy).num hG);have h2:=DS y hy
  have h3:y.cf.nums.length=y.r.o.length*2+2:=by show(qS y.r.o).length+1+1=_;rw[El]
  have h4:y.cf.key=gB y.cf.nums:=rfl
  rw[h4];omega
 refine cu (O':=[ak jb jc 5 1 (cd (gB (bh.map fun y:Nat=>(y:Int)))),ak kb kc 9 1 (strs ks),oI z1 122 [(.slice bb bh.length bc),(.slice cb l.length cc)]]) (by rw[nq];exact(by exact Sub.rf)) ?_
 refine cE (fun(j:Nat) ρ O=> ∃(tb:Option Addr) (tc:Nat),O=[ak tb tc 5 1 (cd (gB (bh.map fun y:Nat=>(y:Int))++(ks.take j).flatMap (fun k=>124::k))),ak kb kc 9 1 (strs ks),oI z1 122 [(.slice bb bh.length bc),(.slice cb l.length cc)]]∧j≤i∧bZ [(1,(.agg #[(.slice bb bh.length bc),(.slice cb l.length cc)])),(3,(.pointer (aD z1))),(4,(str [])),(5,(.slice kb i kc)),(8,(.slice tb ((gB (bh.map fun y:Nat=>(y:Int))++(ks.take j).flatMap (fun k=>124::k)).length) tc)),(29,(.slice kb i kc)),(30,vI (i:Int)),(31,vN j)] ρ) (fun j=>i-j) 0 ?_ ?_
 ·exact⟨jb,jc,by simp,Nat.zero_le _,⟨F,F,F,F,(show Value.slice jb (gB (bh.map fun y:Nat=>(y:Int))).length jc=_ by simp),F,F,F,trivial⟩⟩
 rintro j ρ O ⟨tb,tc,rfl,hj,hH⟩
 obtain⟨eP,rfl⟩:=hH.elim
 clear hH
 have qp:((ks.take j).flatMap (fun k=>(124:UInt8)::k)).length≤401*ks.length:=by
  have KN:=Bq (B:=401) (f:=fun k:Key=>(124:UInt8)::k) (l:=ks.take j) (fun k hk=>by have:=Ed k (List.mem_of_mem_take hk);simp;omega)
  have:=List.length_take_le j ks
  exact Nat.le_trans KN (Nat.mul_le_mul_left _ (by rw[List.length_take];omega))
 have H0:=nK YV
 rw[List.length_map]at H0
 refine ai (ad (bI F F) (ae (ax (aw F (fun hc=>?_) (fun hc=>?_)))))
 ·have NC:j<i:=by omega
  have Oi:j<ks.length:=by omega
  have hkj:=Ed _ (List.getElem_mem Oi)
  refine aq (ax (aC (ai (ad (cq (i:=j) Br CG F F (cw (mG 1 F)) NC (by rw[wh];exact Oi)) (ad (bS rO F F (cw (mG 1 F)) (IL Oi)) (TO.qa F (ae (aH (ah F (aj F (bN (v:=.int .u8 124) lM cP F F F (fun z6=>?_))))))))))))
  refine aj F (bX 1 lM lM cP F F F F (by first|(simp;done)|(simp;omega)) (by decide) (Src.row (j:=0) F (by simp)) (by simp[dD]) (by simp only[List.length_append];omega) (by decide) (by decide) (fun z7 AK=>?_))
  refine ah F (aj F (xD (l:=ks[j].length) (s:=ks[j]) 1 lM rO cP F F F F (by first|(simp;done)|(simp;omega)) F (by simp only[List.length_append];omega) (by decide) (by decide) (fun z9 k_=>?_)))
  refine TO.qa F (ae (aH (ad (cj (a:=j) (b:=1) F F (by omega)) (ah F (ae ?_)))))
  have e9:gB (bh.map fun y:Nat=>(y:Int))++(ks.take (j+1)).flatMap (fun k=>124::k)=gB (bh.map fun y:Nat=>(y:Int))++(ks.take j).flatMap (fun k=>124::k)++[124]++ks[j]:=by rw[List.take_succ_eq_append_getElem Oi,List.flatMap_append];simp
  exact⟨j+1,by omega,[ak z9 k_ 5 1 (((cd (gB (bh.map fun y:Nat=>(y:Int))++(ks.take j).flatMap (fun k=>124::k)))++[.int .u8 124])++cd ks[j]),ak kb kc 9 1 (strs ks),oI z1 122 [(.slice bb bh.length bc),(.slice cb l.length cc)]],(by exact Sub.d (.k (.k (.k .z)))),z9,k_,by rw[e9];simp[cd],by omega,⟨F,F,F,F,(congrArg (fun n9:Nat=>Value.slice z9 n9 k_) (by rw[e9];simp;omega)),F,F,F,trivial⟩⟩
 have Uc: ¬j<i:=by omega
 refine bn ?_
 refine ai (ah F (ad (Ai (l:=gB (bh.map fun y:Nat=>(y:Int))++(ks.take j).flatMap (fun k=>124::k)) lM rO eC F (mG 0 F) F) (TO.qa F (ae (az (ao ?_))))))
 refine aG (str (gB (bh.map fun y:Nat=>(y:Int))++(ks.take j).flatMap (fun k=>124::k))) Tryz.results76 F ?_
 exact⟨[],Sub.z,by rw[List.take_of_length_le (show ks.length≤j by omega),nq];unfold St.key;rw[List.map_map];rfl,F⟩
end Go.Proofs.YtgdbfideeeegmaaGreatDoor

namespace Go.Proofs.YtgdbfideeeegmaaGreatDoor
open Go.Lx Go.RowKit _root_.Go.Proofs.Tryz
def nP (w:World) (cb:Nat) (vs B ob:Nat) (fv:Value) (t:Rx) (i:Nat):Prop:= ∀(lb:Option Addr) (lc:Nat) (ls:List Lf) (ks:List LK),ks.length=ls.length→ls.length+t.lv≤64→y_ ls t→
 dq Tryz.prog w (.iface 163 (.agg #[])) 73 [(.pointer (aD ob)),vN i] ([da ob (.cells (List.toArray [(du (aD cb) 0),(.slice lb ls.length lc),fv]) 114 (0,0)),ak lb lc 118 7 (cI ls ks)]++(bl 3 (ek ls ks)++gr 56 4 3 ls ks)) (fun v O'=> ∃wQ wR tL kI kJ Cc Cd,v=.tuple #[(.slice kI (((aK vs t ls).fi).length) kJ),(.slice Cc (((aK vs t ls).la).length) Cd)]∧O'=[da ob (.cells (List.toArray [(du (aD cb) 0),(.slice wQ (((aK vs t ls).ls).length) wR),fv]) 114 (0,0)),ak wQ wR 118 7 (cI ((aK vs t ls).ls) tL),ak kI kJ 3 1 (aQ ((aK vs t ls).fi)),ak Cc Cd 3 1 (aQ ((aK vs t ls).la))]++(bl 3 (ek ((aK vs t ls).ls) tL)++gr 56 4 3 ((aK vs t ls).ls) tL)∧tL.length=(aK vs t ls).ls.length∧okB vs t B) (¬okB vs t B)
theorem nP.frame {w:World} {cb vs B0 ob:Nat} {fv:Value} {t:Rx} {i:Nat} (h:nP w cb vs B0 ob fv t i) (B:List Lx.Item) {O:List Lx.Item} (lb:Option Addr) (lc:Nat) (ls:List Lf) (ks:List LK) (hk:ks.length=ls.length) (hl:ls.length+t.lv≤64) (Nx:y_ ls t) (hs:Sub ([da ob (.cells (List.toArray [(du (aD cb) 0),(.slice lb ls.length lc),fv]) 114 (0,0)),ak lb lc 118 7 (cI ls ks)]++B) O):
  dq Tryz.prog w (.iface 163 (.agg #[])) 73 [(.pointer (aD ob)),vN i] (O++(bl 3 (ek ls ks)++gr 56 4 3 ls ks)) (fun v O'=> ∃wQ wR tL kI kJ Cc Cd,v=.tuple #[(.slice kI (((aK vs t ls).fi).length) kJ),(.slice Cc (((aK vs t ls).la).length) Cd)]∧O'=([da ob (.cells (List.toArray [(du (aD cb) 0),(.slice wQ (((aK vs t ls).ls).length) wR),fv]) 114 (0,0)),ak wQ wR 118 7 (cI ((aK vs t ls).ls) tL),ak kI kJ 3 1 (aQ ((aK vs t ls).fi)),ak Cc Cd 3 1 (aQ ((aK vs t ls).la))]++B)++(bl 3 (ek ((aK vs t ls).ls) tL)++gr 56 4 3 ((aK vs t ls).ls) tL)∧tL.length=(aK vs t ls).ls.length∧okB vs t B0) (¬okB vs t B0):=by
 refine((h lb lc ls ks hk hl Nx).under (B:=B) (pe _ _ _ _ hs)).post ?_
 rintro v O' ⟨A',rfl,wQ,wR,tL,kI,kJ,Cc,Cd,rfl,rfl,h1⟩
 exact⟨_,pf _ _ _,wQ,wR,tL,kI,kJ,Cc,Cd,F,F,h1⟩
theorem lq (w:World) [cG Tryz.prog w] (cb:Nat) (eb:Option Addr) (en ec vs B:Nat) (eu:Sl w (aD cb) [.slice eb en ec,vI (vs:Int),vI (B:Int)]) (gm:vs≤6) (iP:1≤B) (hB:B≤4096) (e:List dE) (hE:Sl w eb (aT e)) (kT:en=e.length) (i:Nat) (ob:Nat) (fv:Value) (t:Rx) (x:dE) (hp:e[i]? =some x) (h4:x.op≠4) (h5:x.op≠5) (h9:x.op≠9) (Q4:x.op≠10) (Kf:t.lv=1) (Xi: ∀ls,aK vs t ls=⟨ls++[⟨0,minOf vs (jz t),[],false⟩],[ls.length],[ls.length]⟩) (My:okB vs t B=mx vs t B) (Xj: ∀(w1:World) [cG Tryz.prog w1],Inv w [] w1→dq Tryz.prog w1 (.iface 163 (.agg #[])) 72 [(du (aD cb) 0),vN i] [] (xY vs B t) (¬mx vs t B)) (lb:Option Addr) (lc:Nat) (ls:List Lf) (ks:List LK) (n7:ks.length=ls.length) (hl:ls.length+t.lv≤64) (Nx:y_ ls t):
  dq Tryz.prog w (.iface 163 (.agg #[])) 73 [(.pointer (aD ob)),vN i] ([oI ob 114 [(du (aD cb) 0),(.slice lb ls.length lc),fv],ak lb lc 118 7 (cI ls ks)]++(bl 3 (ek ls ks)++gr 56 4 3 ls ks)) (fun v O'=> ∃wQ wR tL kI kJ Cc Cd,v=.tuple #[(.slice kI (((aK vs t ls).fi).length) kJ),(.slice Cc (((aK vs t ls).la).length) Cd)]∧O'=[oI ob 114 [(du (aD cb) 0),(.slice wQ (((aK vs t ls).ls).length) wR),fv],ak wQ wR 118 7 (cI ((aK vs t ls).ls) tL),ak kI kJ 3 1 (aQ ((aK vs t ls).fi)),ak Cc Cd 3 1 (aQ ((aK vs t ls).la))]++(bl 3 (ek ((aK vs t ls).ls) tL)++gr 56 4 3 ((aK vs t ls).ls) tL)∧tL.length=(aK vs t ls).ls.length∧okB vs t B) (¬okB vs t B):=by
 refine dA func73 F ntmps73 F ?_
 obtain⟨hi,_⟩:=kF hp
 simp only[Xi]
 rw[My]
 refine ai (TO.qa F (TO.qa F (ae (ai (ah F (ad (aP F) (ad (aJ gy F tM F F) (ad (aO 0 Dc F F F F) (ad (aP F) (ad (bG kR F eT F F (aB eu) (by first|omega|(simp;done)|(simp;omega)|(simp_all;done)|(simp_all;omega))) (ad (bS cp F F (aB eu) F) (ah F (ad (db (i:=i) cp bQ F F (aB hE) (by omega) (by rw[bF];omega)) (ad (dT (vs:=x.cl) bK F bQ F F (Nat.succ_pos _) (aB hE) (fp hp)) (aj F (aR bQ F (fun z1=>?_)))))))))))))))))
 refine aj F (bj (vs:=x.cl) 0 bQ F F F F ?_)
 refine ae (ax (ai (ad (aJ bK F cP F F) (ad (aO 0 eC F F F F) (ae (aC (ai (ad (bo F F) (ad (ar (cD F) (decide_eq_false (by omega))) (ae (aL F (ai (ad (bo F F) (ad (ar (cD F) (decide_eq_false (by omega))) ?_))))))))))))))
 refine ae (aL F (ai (ad (bo F F) (ad (ar (cD F) (decide_eq_false (by omega))) (ae (aL F (ai (ad (bo F F) (ad (ar (cD F) (decide_eq_false (by omega))) ?_)))))))))
 refine ae (aL F ?_)
 refine T.ds [oI z1 72 x.cl,oI ob 114 [(du (aD cb) 0),(.slice lb ls.length lc),fv]] [(0,0),(1,0),(2,0),(3,0),(4,0),(5,0),(6,0),(7,0),(8,0),(9,0),(10,1),(11,0),(12,1),(13,1),(14,0),(15,0),(16,2)] (by exact Sub.k (.k .z)) ?_
 refine am F (aF F) (am F (aF F) (am F (aP F) (am F (aJ gy F gj F F) (am F (aO 1 eF F F F F) (am F (aF F) (am F (aP F) (am F (aJ gy F tM F F) (am F (aO 1 Dc F F F F) (am F (aF F) ?_)))))))))
 have oT:=fun(w1:World) (hI:Inv w ([oI z1 72 x.cl,oI ob 114 [(du (aD cb) 0),(.slice lb ls.length lc),fv],ak lb lc 118 7 (cI ls ks)]++(bl 3 (ek ls ks)++gr 56 4 3 ls ks)) w1)=>(haveI:=dp hI;Xj w1 hI.lY)
 refine lR F F (fA xZ (dq.pure oT) F (fun z _=>⟨F,z⟩) ?_)
 clear oT
 rintro vr O' ⟨N,rfl,M,kM,rfl,rfl,hM,hO⟩
 refine⟨by exact Sub.d (.k (.k .z)),?_⟩
 have eM:=jI hM hB
 refine am F (bE (cs:=[(.int .u8 0),(vI M.vars),(vI M.start),(.slice kM.nb M.next.length kM.nc),(.slice kM.fb M.aA.length kM.fc),nS,(.bool false)]) Es dZ (by kernel_rfl)) ?_
 refine bJ F F (bH (m:=1) (parts:=[(0,_)]) (cs:=[(.int .u8 0),(vI M.vars),(vI M.start),(.slice kM.nb M.next.length kM.nc),(.slice kM.fb M.aA.length kM.fc),nS,(.bool false)]) eF dZ (by decide) (by kernel_rfl) F (fun z2=>⟨by exact Sub.d (.d (.k (.k .z))),?_⟩))
 refine bJ F F (bX 4 eF eF dZ F F F F (by rw[cX n7]) (by decide) (Src.row (j:=0) F (by simp)) (by simp[dD]) (by omega) (by decide) (by decide) (fun z3 oh=>⟨by exact Sub.d (.d (.k (.k .z))),?_⟩))
 refine am F (aP F) (am F (aJ gy F gj F F) ?_)
 refine bq F F (bj (vs:=[(.slice z3 (ls.length+1) oh)]) 3 gj F F F F ?_)
 refine bu ?_
 refine ai (ah F (ad (aP F) (ad (aJ gy F gj F F) (ad (aO 3 eF F F F F) (ad (bL eF F) (ad (a8 (eQ F F (by omega)) (v':=vN ls.length) (congrArg (Value.int .i64) (by omega))) (TO.qa F (ae (ax (T.dt 3 1 ?_))))))))))
 refine aH (ah F (aj F (bN (v:=vN ls.length) bT aM F F F (fun z5=>?_))))
 refine ah F (aj F (bN (v:=vN ls.length) bT aM F F F (fun z6=>?_)))
 refine TO.qa F (TO.qa F (ae (az (ao ?_))))
 refine ct (.slice (aD z5) 1 1) (.slice (aD z6) 1 1) Tryz.results73 F F ?_
 exact⟨[oI ob 114 [(du (aD cb) 0),(.slice z3 ((ls++[(⟨0,minOf vs (jz t),[],false⟩:Lf)]).length) oh),fv],ak z3 oh 118 7 (cI (ls++[(⟨0,minOf vs (jz t),[],false⟩:Lf)]) (ks++[(⟨kM,none,0⟩:LK)])),ak (aD z5) 1 3 1 (aQ [ls.length]),ak (aD z6) 1 3 1 (aQ [ls.length])]++(bl 3 (ek (ls++[(⟨0,minOf vs (jz t),[],false⟩:Lf)]) (ks++[(⟨kM,none,0⟩:LK)]))++gr 56 4 3 (ls++[(⟨0,minOf vs (jz t),[],false⟩:Lf)]) (ks++[(⟨kM,none,0⟩:LK)])),by
   rw[wi n7,wj,x8 n7,tN n7,List.length_append,←eM]
   exact tO [oI ob 114 [(du (aD cb) 0),(.slice z3 (ls.length+1) oh),fv],ak z3 oh 118 7 ((cI ls ks)++[(.int .u8 0),(vI M.vars),(vI M.start),(.slice kM.nb M.next.length kM.nc),(.slice kM.fb M.aA.length kM.fc),nS,(.bool false)]),ak (aD z5) 1 3 1 [vN ls.length],ak (aD z6) 1 3 1 [vN ls.length]] [ak (aD z6) 1 3 1 [vN ls.length],ak (aD z5) 1 3 1 [vN ls.length],ak none 0 3 1 [],ak (aD z2) 1 118 7 [(.int .u8 0),(vI M.vars),(vI M.start),(.slice kM.nb M.next.length kM.nc),(.slice kM.fb M.aA.length kM.fc),nS,(.bool false)],dI 56 4 3 M kM,oI z1 72 x.cl,oI ob 114 [(du (aD cb) 0),(.slice z3 (ls.length+1) oh),fv],ak z3 oh 118 7 ((cI ls ks)++[(.int .u8 0),(vI M.vars),(vI M.start),(.slice kM.nb M.next.length kM.nc),(.slice kM.fb M.aA.length kM.fc),nS,(.bool false)])] _ _ _ _ (by exact Sub.dL [ak (aD z6) 1 3 1 [vN ls.length],ak (aD z5) 1 3 1 [vN ls.length],ak none 0 3 1 [],ak (aD z2) 1 118 7 [(.int .u8 0),(vI M.vars),(vI M.start),(.slice kM.nb M.next.length kM.nc),(.slice kM.fb M.aA.length kM.fc),nS,(.bool false)],dI 56 4 3 M kM,oI z1 72 x.cl] _ (.dL [ak (aD z6) 1 3 1 [vN ls.length],ak (aD z5) 1 3 1 [vN ls.length],ak none 0 3 1 [],ak (aD z2) 1 118 7 [(.int .u8 0),(vI M.vars),(vI M.start),(.slice kM.nb M.next.length kM.nc),(.slice kM.fb M.aA.length kM.fc),nS,(.bool false)],dI 56 4 3 M kM,oI z1 72 x.cl] _ (.dL [ak (aD z6) 1 3 1 [vN ls.length]] _ (.k (.k (.d (.k .z))))))),z3,oh,(ks++[(⟨kM,none,0⟩:LK)]),(aD z5),1,(aD z6),1,F,F,by simp[n7],hO⟩
theorem Dd (w:World) [cG Tryz.prog w] (cb:Nat) (eb:Option Addr) (en ec vs B:Nat) (eu:Sl w (aD cb) [.slice eb en ec,vI (vs:Int),vI (B:Int)]) (gm:vs≤6) (iP:1≤B) (hB:B≤4096) (e:List dE) (hE:Sl w eb (aT e)) (kT:en=e.length) (i:Nat) (ob:Nat) (fv:Value) (a:Rx) (j:Nat) (hp:e[i]? =some ⟨9,0,0,(j:Int),0⟩) (Xi: ∀ls,aK vs (Rx.ahead a) ls=⟨ls++[⟨9,minOf vs (nI (jz a) fun _=>true),[],false⟩],[ls.length],[ls.length]⟩) (Xj: ∀(w1:World) [cG Tryz.prog w1],Inv w [] w1→dq Tryz.prog w1 (.iface 163 (.agg #[])) 72 [(du (aD cb) 0),vN j] [] (xY vs B a) (¬mx vs a B)) (lb:Option Addr) (lc:Nat) (ls:List Lf) (ks:List LK) (n7:ks.length=ls.length) (hl:ls.length+(Rx.ahead a).lv≤64) (Nx:y_ ls (Rx.ahead a)):
  dq Tryz.prog w (.iface 163 (.agg #[])) 73 [(.pointer (aD ob)),vN i] ([oI ob 114 [(du (aD cb) 0),(.slice lb ls.length lc),fv],ak lb lc 118 7 (cI ls ks)]++(bl 3 (ek ls ks)++gr 56 4 3 ls ks)) (fun v O'=> ∃wQ wR tL kI kJ Cc Cd,v=.tuple #[(.slice kI (((aK vs (Rx.ahead a) ls).fi).length) kJ),(.slice Cc (((aK vs (Rx.ahead a) ls).la).length) Cd)]∧O'=[oI ob 114 [(du (aD cb) 0),(.slice wQ (((aK vs (Rx.ahead a) ls).ls).length) wR),fv],ak wQ wR 118 7 (cI ((aK vs (Rx.ahead a) ls).ls) tL),ak kI kJ 3 1 (aQ ((aK vs (Rx.ahead a) ls).fi)),ak Cc Cd 3 1 (aQ ((aK vs (Rx.ahead a) ls).la))]++(bl 3 (ek ((aK vs (Rx.ahead a) ls).ls) tL)++gr 56 4 3 ((aK vs (Rx.ahead a) ls).ls) tL)∧tL.length=(aK vs (Rx.ahead a) ls).ls.length∧okB vs (Rx.ahead a) B) (¬okB vs (Rx.ahead a) B):=by
 refine dA func73 F ntmps73 F ?_
 obtain⟨hi,_⟩:=kF hp
 simp only[Xi]
 refine ai (TO.qa F (TO.qa F (ae (ai (ah F (ad (aP F) (ad (aJ gy F tM F F) (ad (aO 0 Dc F F F F) (ad (aP F) (ad (bG kR F eT F F (aB eu) (by first|omega|(simp;done)|(simp;omega)|(simp_all;done)|(simp_all;omega))) (ad (bS cp F F (aB eu) F) (ah F (ad (db (i:=i) cp bQ F F (aB hE) (by omega) (by rw[bF];omega)) (ad (dT (vs:=[v8 9,v8 0,v8 0,vN j,vI 0]) bK F bQ F F (Nat.succ_pos _) (aB hE) (fp hp)) (aj F (aR bQ F (fun z1=>?_)))))))))))))))))
 refine aj F (bj (vs:=[v8 9,v8 0,v8 0,vN j,vI 0]) 0 bQ F F F F ?_)
 refine ae (ax (ai (ad (aJ bK F cP F F) (ad (aO 0 eC F F F F) (ae (aC (ai (ad (bo F F) (ad (ar (cD F) (decide_eq_false (by decide))) (ae (aL F (ai (ad (bo F F) (ad (ar (cD F) (decide_eq_false (by decide))) ?_))))))))))))))
 refine ae (aL F (ai (ad (bo F F) (ad (ar (cD F) (decide_eq_true (by decide))) (ae ?_)))))
 refine bg F ?_
 refine T.ds [oI z1 72 [v8 9,v8 0,v8 0,vN j,vI 0],oI ob 114 [(du (aD cb) 0),(.slice lb ls.length lc),fv]] [(0,0),(1,0),(2,0),(3,0),(4,0),(5,0),(6,0),(7,0),(8,0),(9,0),(10,0),(11,0),(12,0),(13,0),(14,0),(15,0),(16,0),(18,0),(19,0),(20,0),(21,0),(17,1),(22,1),(23,1),(24,0),(25,1),(26,1),(27,0),(28,0),(29,2)] (by exact Sub.k (.k .z)) ?_
 refine am F (aF F) (am F (aF F) (am F (aP F) (am F (aJ gy F gj F F) (am F (aO 1 eF F F F F) (am F (aJ bK F cP F F) (am F (aO 0 eC F F F F) (am F (aF F) (am F (aP F) (am F (aJ gy F tM F F) (am F (aO 1 Dc F F F F) (am F (aF F) (am F (aP F) (am F (aJ gy F tM F F) (am F (aO 1 Dc F F F F) (am F (aJ bK F aM F F) (am F (aO 0 dh F F F F) (am F (aF F) (am F (aP F) (am F (aJ gy F tM F F) (am F (aO 1 Dc F F F F) ?_))))))))))))))))))))
 have Bp:=fun(w1:World) (hI:Inv w ([oI z1 72 [v8 9,v8 0,v8 0,vN j,vI 0],oI ob 114 [(du (aD cb) 0),(.slice lb ls.length lc),fv],ak lb lc 118 7 (cI ls ks)]++(bl 3 (ek ls ks)++gr 56 4 3 ls ks)) w1)=>(haveI:=dp hI;Xj w1 hI.lY)
 refine lR F F (fA xZ (dq.pure Bp) F (fun z _=>⟨F,fun h9=>z h9.1⟩) ?_)
 clear Bp
 rintro vr O' ⟨N,rfl,MA,kA,rfl,rfl,B9,hO⟩
 refine⟨by exact Sub.d (.k (.k .z)),?_⟩
 have Nw:=jI B9 hB
 have ND:=fun(w1:World) (hI:Inv w ([dI 56 4 3 MA kA,oI z1 72 [v8 9,v8 0,v8 0,vN j,vI 0],oI ob 114 [(du (aD cb) 0),(.slice lb ls.length lc),fv],ak lb lc 118 7 (cI ls ks)]++(bl 3 (ek ls ks)++gr 56 4 3 ls ks)) w1)=>(haveI:=dp hI;Rr w1 cb eb en ec vs B (hI.sl eu) gm)
 refine bJ F F (aI Qc (aE ND) F ?_)
 clear ND
 rintro vr O' ⟨N,rfl,kS,rfl,rfl⟩
 refine⟨by exact Sub.d (.d (.k (.k .z))),?_⟩
 have NE:=fun(w1:World) (hI:Inv w ([dI 56 4 3 (fZ (vs:Int) true) kS,dI 56 4 3 MA kA,oI z1 72 [v8 9,v8 0,v8 0,vN j,vI 0],oI ob 114 [(du (aD cb) 0),(.slice lb ls.length lc),fv],ak lb lc 118 7 (cI ls ks)]++(bl 3 (ek ls ks)++gr 56 4 3 ls ks)) w1)=>(haveI:=dp hI;TD w1 cb eb en ec vs B (hI.sl eu) gm iP hB MA kA (hI.at (k:=kA) (mG 1 F)) B9.valid B9.vars (fZ (vs:Int) true) kS (hI.at (k:=kS) (mG 0 F)) (iL gm).valid (by rw[B9.vars];rfl))
 refine lR F F (fA It (dq.pure NE) F (fun z _=>⟨F,fun h9=>z (by rw[Nw];exact h9.2)⟩) ?_)
 clear NE
 rintro vr O' ⟨N,rfl,M,kM,rfl,rfl,TM,TN⟩
 refine⟨by exact Sub.d (.d (.d (.k (.k .z)))),?_⟩
 have eM:M=minOf vs (nI (jz a) fun _=>true):=jI (TM.to fun w9 h9=>qQ (fun u hu=>B9.h_ u hu) (fun u hu=>(iL gm).h_ u hu) h9) hB
 refine am F (bE (cs:=[v8 9,(vI M.vars),(vI M.start),(.slice kM.nb M.next.length kM.nc),(.slice kM.fb M.aA.length kM.fc),nS,(.bool false)]) Es dZ (by kernel_rfl)) ?_
 refine bJ F F (bH (m:=1) (parts:=[(0,_)]) (cs:=[v8 9,(vI M.vars),(vI M.start),(.slice kM.nb M.next.length kM.nc),(.slice kM.fb M.aA.length kM.fc),nS,(.bool false)]) eF dZ (by decide) (by kernel_rfl) F (fun z2=>⟨by exact Sub.d (.d (.d (.d (.k (.k .z))))),?_⟩))
 refine bJ F F (bX 6 eF eF dZ F F F F (by rw[cX n7]) (by decide) (Src.row (j:=0) F (by simp)) (by simp[dD]) (by omega) (by decide) (by decide) (fun z3 oh=>⟨by exact Sub.d (.d (.d (.d (.k (.k .z))))),?_⟩))
 refine am F (aP F) (am F (aJ gy F gj F F) ?_)
 refine bq F F (bj (vs:=[(.slice z3 (ls.length+1) oh)]) 5 gj F F F F ?_)
 refine bu ?_
 refine ai (ah F (ad (aP F) (ad (aJ gy F gj F F) (ad (aO 5 eF F F F F) (ad (bL eF F) (ad (a8 (eQ F F (by omega)) (v':=vN ls.length) (congrArg (Value.int .i64) (by omega))) (TO.qa F (ae (ax (T.dt 3 1 ?_))))))))))
 refine aH (ah F (aj F (bN (v:=vN ls.length) bT aM F F F (fun z5=>?_))))
 refine ah F (aj F (bN (v:=vN ls.length) bT aM F F F (fun z6=>?_)))
 refine TO.qa F (TO.qa F (ae (az (ao ?_))))
 refine ct (.slice (aD z5) 1 1) (.slice (aD z6) 1 1) Tryz.results73 F F ?_
 exact⟨[oI ob 114 [(du (aD cb) 0),(.slice z3 ((ls++[(⟨9,minOf vs (nI (jz a) fun _=>true),[],false⟩:Lf)]).length) oh),fv],ak z3 oh 118 7 (cI (ls++[(⟨9,minOf vs (nI (jz a) fun _=>true),[],false⟩:Lf)]) (ks++[(⟨kM,none,0⟩:LK)])),ak (aD z5) 1 3 1 (aQ [ls.length]),ak (aD z6) 1 3 1 (aQ [ls.length])]++(bl 3 (ek (ls++[(⟨9,minOf vs (nI (jz a) fun _=>true),[],false⟩:Lf)]) (ks++[(⟨kM,none,0⟩:LK)]))++gr 56 4 3 (ls++[(⟨9,minOf vs (nI (jz a) fun _=>true),[],false⟩:Lf)]) (ks++[(⟨kM,none,0⟩:LK)])),by
   rw[wi n7,wj,x8 n7,tN n7,List.length_append,←eM]
   exact tO [oI ob 114 [(du (aD cb) 0),(.slice z3 (ls.length+1) oh),fv],ak z3 oh 118 7 ((cI ls ks)++[v8 9,(vI M.vars),(vI M.start),(.slice kM.nb M.next.length kM.nc),(.slice kM.fb M.aA.length kM.fc),nS,(.bool false)]),ak (aD z5) 1 3 1 [vN ls.length],ak (aD z6) 1 3 1 [vN ls.length]] [ak (aD z6) 1 3 1 [vN ls.length],ak (aD z5) 1 3 1 [vN ls.length],ak none 0 3 1 [],ak (aD z2) 1 118 7 [v8 9,(vI M.vars),(vI M.start),(.slice kM.nb M.next.length kM.nc),(.slice kM.fb M.aA.length kM.fc),nS,(.bool false)],dI 56 4 3 M kM,dI 56 4 3 (fZ (vs:Int) true) kS,dI 56 4 3 MA kA,oI z1 72 [v8 9,v8 0,v8 0,vN j,vI 0],oI ob 114 [(du (aD cb) 0),(.slice z3 (ls.length+1) oh),fv],ak z3 oh 118 7 ((cI ls ks)++[v8 9,(vI M.vars),(vI M.start),(.slice kM.nb M.next.length kM.nc),(.slice kM.fb M.aA.length kM.fc),nS,(.bool false)])] _ _ _ _ (by exact Sub.dL [ak (aD z6) 1 3 1 [vN ls.length],ak (aD z5) 1 3 1 [vN ls.length],ak none 0 3 1 [],ak (aD z2) 1 118 7 [v8 9,(vI M.vars),(vI M.start),(.slice kM.nb M.next.length kM.nc),(.slice kM.fb M.aA.length kM.fc),nS,(.bool false)],dI 56 4 3 M kM,dI 56 4 3 (fZ (vs:Int) true) kS,dI 56 4 3 MA kA,oI z1 72 [v8 9,v8 0,v8 0,vN j,vI 0]] _ (.dL [ak (aD z6) 1 3 1 [vN ls.length],ak (aD z5) 1 3 1 [vN ls.length],ak none 0 3 1 [],ak (aD z2) 1 118 7 [v8 9,(vI M.vars),(vI M.start),(.slice kM.nb M.next.length kM.nc),(.slice kM.fb M.aA.length kM.fc),nS,(.bool false)],dI 56 4 3 M kM,dI 56 4 3 (fZ (vs:Int) true) kS,dI 56 4 3 MA kA,oI z1 72 [v8 9,v8 0,v8 0,vN j,vI 0]] _ (.dL [ak (aD z6) 1 3 1 [vN ls.length]] _ (.k (.k (.d (.k .z))))))),z3,oh,(ks++[(⟨kM,none,0⟩:LK)]),(aD z5),1,(aD z6),1,F,F,by simp[n7],⟨hO,by rw[←Nw];exact TN⟩⟩
theorem IM (w:World) [cG Tryz.prog w] (cb:Nat) (eb:Option Addr) (en ec vs B:Nat) (eu:Sl w (aD cb) [.slice eb en ec,vI (vs:Int),vI (B:Int)]) (gm:vs≤6) (iP:1≤B) (hB:B≤4096) (e:List dE) (hE:Sl w eb (aT e)) (kT:en=e.length) (i:Nat) (ob:Nat) (fv:Value) (a b:Rx) (j k:Nat) (hp:e[i]? =some ⟨4,0,0,(j:Int),(k:Int)⟩) (hA:nP w cb vs B ob fv a j) (hB:nP w cb vs B ob fv b k) (lb:Option Addr) (lc:Nat) (ls:List Lf) (ks:List LK) (n7:ks.length=ls.length) (hl:ls.length+(Rx.kQ a b).lv≤64) (Nx:y_ ls (Rx.kQ a b)):
  dq Tryz.prog w (.iface 163 (.agg #[])) 73 [(.pointer (aD ob)),vN i] ([oI ob 114 [(du (aD cb) 0),(.slice lb ls.length lc),fv],ak lb lc 118 7 (cI ls ks)]++(bl 3 (ek ls ks)++gr 56 4 3 ls ks)) (fun v O'=> ∃wQ wR tL kI kJ Cc Cd,v=.tuple #[(.slice kI (((aK vs (Rx.kQ a b) ls).fi).length) kJ),(.slice Cc (((aK vs (Rx.kQ a b) ls).la).length) Cd)]∧O'=[oI ob 114 [(du (aD cb) 0),(.slice wQ (((aK vs (Rx.kQ a b) ls).ls).length) wR),fv],ak wQ wR 118 7 (cI ((aK vs (Rx.kQ a b) ls).ls) tL),ak kI kJ 3 1 (aQ ((aK vs (Rx.kQ a b) ls).fi)),ak Cc Cd 3 1 (aQ ((aK vs (Rx.kQ a b) ls).la))]++(bl 3 (ek ((aK vs (Rx.kQ a b) ls).ls) tL)++gr 56 4 3 ((aK vs (Rx.kQ a b) ls).ls) tL)∧tL.length=(aK vs (Rx.kQ a b) ls).ls.length∧okB vs (Rx.kQ a b) B) (¬okB vs (Rx.kQ a b) B):=by
 refine dA func73 F ntmps73 F ?_
 obtain⟨hi,_⟩:=kF hp
 have Ud:=fN vs a ls
 have aaD:=fN vs b (aK vs a ls).ls
 have Xk:=eI vs a ls
 have Xl:=eI vs b (aK vs a ls).ls
 have aaE:a.lv+b.lv≤64:=by simp only[Rx.lv]at hl;omega
 simp only[Rx.lv]at hl
 refine ai (TO.qa F (TO.qa F (ae (ai (ah F (ad (aP F) (ad (aJ gy F tM F F) (ad (aO 0 Dc F F F F) (ad (aP F) (ad (bG kR F eT F F (aB eu) (by first|omega|(simp;done)|(simp;omega)|(simp_all;done)|(simp_all;omega))) (ad (bS cp F F (aB eu) F) (ah F (ad (db (i:=i) cp bQ F F (aB hE) (by omega) (by rw[bF];omega)) (ad (dT (vs:=[v8 4,v8 0,v8 0,vN j,vN k]) bK F bQ F F (Nat.succ_pos _) (aB hE) (fp hp)) (aj F (aR bQ F (fun z1=>?_)))))))))))))))))
 refine aj F (bj (vs:=[v8 4,v8 0,v8 0,vN j,vN k]) 0 bQ F F F F ?_)
 refine ae (ax (ai (ad (aJ bK F cP F F) (ad (aO 0 eC F F F F) (ae (aC (ai (ad (bo F F) (ad (ar (cD F) (decide_eq_true (by decide))) (ae ?_))))))))))
 refine bg F ?_
 refine ai (ah F (ad (aJ bK F aM F F) (ad (aO 0 dh F F F F) ?_)))
 let dS:Lx.Item:=oI z1 72 [v8 4,v8 0,v8 0,vN j,vN k]
 have AZ:=(hA.frame [dS] (O:=[dS,oI ob 114 [(du (aD cb) 0),(.slice lb ls.length lc),fv],ak lb lc 118 7 (cI ls ks)]) lb lc ls ks n7 (by first|omega|(rw[eI];omega)) (y_.left Nx) (by exact Sub.dL [dS] _ (.dL [dS] _ (.k .z))))
 refine dP F (fA IN AZ F (fun z _=>⟨F,fun h9=>z h9.1⟩) ?_)
 clear AZ
 rintro vr O' ⟨Xm,Xn,YW,Qd,Qe,Ue,Uf,rfl,rfl,hkA,TL⟩
 refine ah F (ad (bm (vs:=_) F F) (ad (bm (vs:=_) F F) (TO.qa F (TO.qa F (ae (ai (ah F (ad (aJ bK F aM F F) (ad (aO 4 dh F F F F) ?_)))))))))
 let gN:Lx.Item:=ak Qd Qe 3 1 (aQ ((aK vs a ls).fi))
 let kn:Lx.Item:=ak Ue Uf 3 1 (aQ ((aK vs a ls).la))
 have Ug:=(hB.frame [gN,kn,dS] (O:=[oI ob 114 [(du (aD cb) 0),(.slice Xm (((aK vs a ls).ls).length) Xn),fv],ak Xm Xn 118 7 (cI ((aK vs a ls).ls) YW),gN,kn,dS]) Xm Xn ((aK vs a ls).ls) YW hkA (by first|omega|(rw[eI];omega)) (zg Nx) (by exact Sub.rf))
 refine dP F (fA IN Ug F (fun z _=>⟨F,fun h9=>z h9.2⟩) ?_)
 clear Ug
 rintro vr O' ⟨Ce,Cg,VH,VI,VJ,Qg,Qh,rfl,rfl,J_,PJ⟩
 refine ah F (ad (bm (vs:=_) F F) (ad (bm (vs:=_) F F) (TO.qa F (TO.qa F (ae (ax (ai (ah F (ad (bL bT F) (ah F (ae (aC ?_))))))))))))
 let xP:Lx.Item:=ak VI VJ 3 1 (aQ ((aK vs b ((aK vs a ls).ls)).fi))
 let pZ:Lx.Item:=ak Qg Qh 3 1 (aQ ((aK vs b ((aK vs a ls).ls)).la))
 refine cu (O':=[oI ob 114 [(du (aD cb) 0),(.slice Ce (((aK vs b ((aK vs a ls).ls)).ls).length) Cg),fv],ak Ce Cg 118 7 (cI ((aK vs b ((aK vs a ls).ls)).ls) VH),xP,pZ,gN,kn,dS]++(bl 3 (ek ((aK vs b ((aK vs a ls).ls)).ls) VH)++gr 56 4 3 ((aK vs b ((aK vs a ls).ls)).ls) VH)) (by exact Sub.rf) ?_
 refine cE (fun(i9:Nat) ρ O=> ∃(l3:List Lf) (k3:List LK),O=([oI ob 114 [(du (aD cb) 0),(.slice Ce l3.length Cg),fv],ak Ce Cg 118 7 (cI l3 k3),xP,pZ,gN,kn,dS]++(bl 3 (ek l3 k3)++gr 56 4 3 l3 k3))∧i9≤(aK vs a ls).la.length∧l3=lU ((aK vs b ((aK vs a ls).ls)).ls) ((aK vs a ls).la.take i9) ((aK vs b ((aK vs a ls).ls)).fi)∧k3.length=l3.length∧bZ [(0,(.pointer (aD ob))),(1,vN i),(4,nS),(5,nS),(6,(.pointer (aD z1))),(7,(.slice Qd ((aK vs a ls).fi.length) Qe)),(8,(.slice Ue ((aK vs a ls).la.length) Uf)),(9,(.slice VI ((aK vs b ((aK vs a ls).ls)).fi.length) VJ)),(10,(.slice Qg ((aK vs b ((aK vs a ls).ls)).la.length) Qh)),(46,.bool true),(62,(.slice Ue ((aK vs a ls).la.length) Uf)),(63,vI ((aK vs a ls).la.length:Int)),(64,vN i9)] ρ) (fun i9=>(aK vs a ls).la.length-i9) 0 ?_ ?_
 ·exact⟨(aK vs b ((aK vs a ls).ls)).ls,VH,F,Nat.zero_le _,F,J_,(.of F)⟩
 rintro i9 ρ O ⟨l3,k3,rfl,Kp,Ke,rX,hH⟩
 obtain⟨eP,rfl⟩:=hH.elim
 clear hH
 refine ai (ad (bI F F) (ae (ax (aw F (fun hc=>?_) (fun hc=>?_)))))
 ·have jo:i9<(aK vs a ls).la.length:=by omega
  obtain⟨kk,De⟩: ∃k,k=(aK vs a ls).la[i9]:=⟨_,F⟩
  have hn3:l3.length=(aK vs b ((aK vs a ls).ls)).ls.length:=by rw[Ke,sY]
  have x7:kk<l3.length:=by
   have:=(Ud.2.1 _ (List.getElem_mem jo)).2
   rw[hn3,Xl,Xk];rw[De];omega
  have aaH:(lf l3 kk).fo.length≤100000:=by
   subst Ke
   exact Df Nx (by rw[List.length_take];have:=Ud.2.2.2;omega) x7
  refine aq (ax (aC (ai (ad (cq (i:=i9) bT aM F F (cw (mG 5 F)) jo (by rw[List.length_map];exact jo)) (ad (bS dh F F (cw (mG 5 F)) (show(aQ (aK vs a ls).la)[i9]? =some (vN kk) by rw[De];exact eK jo)) (TO.qa F (ae ?_)))))))
  let gz:Lx.Item:=oI ob 114 [(du (aD cb) 0),(.slice Ce l3.length Cg),fv]
  let gn:Lx.Item:=oI z1 72 [v8 4,v8 0,v8 0,vN j,vN k]
  let kO:Lx.Item:=ak Qd Qe 3 1 (aQ ((aK vs a ls).fi))
  let kP:Lx.Item:=ak Ue Uf 3 1 (aQ ((aK vs a ls).la))
  let wP:Lx.Item:=ak VI VJ 3 1 (aQ ((aK vs b ((aK vs a ls).ls)).fi))
  let oP:Lx.Item:=ak Qg Qh 3 1 (aQ ((aK vs b ((aK vs a ls).ls)).la))
  refine cu (O':=[ak ((lk k3 kk).b) ((lk k3 kk).c) 3 1 (aQ (lf l3 kk).fo),gz,ak Ce Cg 118 7 (cI l3 k3),wP,oP,kO,kP,gn]++(bl 3 ((ek l3 k3).eraseIdx kk)++gr 56 4 3 l3 k3)) (by
   have h9:=IP (E:=3) (Bs rX x7) [oI ob 114 [(du (aD cb) 0),(.slice Ce l3.length Cg),fv],ak Ce Cg 118 7 (cI l3 k3),ak VI VJ 3 1 (aQ ((aK vs b ((aK vs a ls).ls)).fi)),ak Qg Qh 3 1 (aQ ((aK vs b ((aK vs a ls).ls)).la)),ak Qd Qe 3 1 (aQ ((aK vs a ls).fi)),ak Ue Uf 3 1 (aQ ((aK vs a ls).la)),oI z1 72 [v8 4,v8 0,v8 0,vN j,vN k]] (gr 56 4 3 l3 k3)
   rw[show Rec.lZ 3 ⟨(lk k3 kk).b,(lk k3 kk).c,(lf l3 kk).fo.map fun y:Nat=>(y:Int)⟩=ak ((lk k3 kk).b) ((lk k3 kk).c) 3 1 (aQ (lf l3 kk).fo)from congrArg (ak _ _ 3 1) (e7 _)]at h9
   exact h9) ?_
  refine T.ds [gz,ak Ce Cg 118 7 (cI l3 k3),gn] [(0,0),(1,0),(2,0),(3,0),(4,0),(5,0),(6,0),(7,0),(8,0),(9,0),(10,0),(11,0),(12,0),(13,0),(14,1),(15,0),(16,0),(17,2)] (by exact Sub.d (.k (.k (.d (.d (.d (.d (.k .z)))))))) ?_
  refine am F (aF F) (am F (aP F) (am F (aJ gy F gj F F) (am F (aO 0 eF F F F F) (am F (aF F) (am F (aF F) (am F (aP F) (am F (aJ gy F gj F F) (am F (aO 0 eF F F F F) (am F (aF F) (am F (db (i:=kk) eF dZ F F (cw (mG 1 F)) x7 (by rw[cX rX];omega)) (am F (bG gq F bP F F (cw (mG 1 F)) (by rw[cX rX];omega)) (am F (bS bT F F (cw (mG 1 F)) (o9 rX x7 5 F F)) (am F (aF F) ?_)))))))))))))
  refine bJ F F (bX 0 bT bT aM F F F F (by rw[List.length_map];omega) (by decide) (Src.row (j:=3) F (by rw[List.length_map];omega)) (by simp[dD]) (by omega) (by decide) (by decide) (fun z2 vK=>⟨by exact Sub.d (.k (.k (.d (.d (.d (.d (.k .z))))))),?_⟩))
  refine am F (db (i:=kk) eF dZ F F (cw (mG 1 F)) x7 (by rw[cX rX];omega)) (am F (bG gq F bP F F (cw (mG 1 F)) (by rw[cX rX];omega)) ?_)
  let um:Value:=(.slice z2 (((lf l3 kk).fo.length)+((aK vs b ((aK vs a ls).ls)).fi.length)) vK)
  refine bq F F (jW (j:=(kk*7+5)) (v:=um) (vs:=[um]) (cs:=cI l3 k3) 2 bP F F F F F (by simp) F (by rw[cX rX];simp;omega) ?_)
  refine de (O':=([ak z2 vK 3 1 ((aQ (lf l3 kk).fo)++(aQ ((aK vs b ((aK vs a ls).ls)).fi))),gz,ak Ce Cg 118 7 (cI (l3.set kk {lf l3 kk with fo:=(lf l3 kk).fo++(aK vs b ((aK vs a ls).ls)).fi}) (k3.set kk {lk k3 kk with b:=z2,c:=vK})),wP,oP,kO,kP,gn]++(bl 3 ((ek l3 k3).eraseIdx kk)++gr 56 4 3 l3 k3))) (by rw[show dl (cI l3 k3) (kk*7+5) [(.slice z2 (((lf l3 kk).fo.length)+((aK vs b ((aK vs a ls).ls)).fi.length)) vK)]=cI (l3.set kk {lf l3 kk with fo:=(lf l3 kk).fo++(aK vs b ((aK vs a ls).ls)).fi}) (k3.set kk {lk k3 kk with b:=z2,c:=vK})from(by rw[Dg rX x7,List.length_append];simp[dl])];exact a_ (List.Sublist.refl _)) ?_
  refine bu ?_
  refine aH (ad (cj (a:=i9) (b:=1) F F (by omega)) (ah F (ae ?_)))
  exact⟨i9+1,by omega,[oI ob 114 [(du (aD cb) 0),(.slice Ce ((l3.set kk {lf l3 kk with fo:=(lf l3 kk).fo++(aK vs b ((aK vs a ls).ls)).fi}).length) Cg),fv],ak Ce Cg 118 7 (cI (l3.set kk {lf l3 kk with fo:=(lf l3 kk).fo++(aK vs b ((aK vs a ls).ls)).fi}) (k3.set kk {lk k3 kk with b:=z2,c:=vK})),wP,oP,kO,kP,gn]++(bl 3 (ek (l3.set kk {lf l3 kk with fo:=(lf l3 kk).fo++(aK vs b ((aK vs a ls).ls)).fi}) (k3.set kk {lk k3 kk with b:=z2,c:=vK}))++gr 56 4 3 (l3.set kk {lf l3 kk with fo:=(lf l3 kk).fo++(aK vs b ((aK vs a ls).ls)).fi}) (k3.set kk {lk k3 kk with b:=z2,c:=vK})),by
   rw[FT rX x7,IQ rX x7,List.length_set]
   refine Sub.trans (LN (by rw[FU rX];exact x7) [gz,ak Ce Cg 118 7 (cI (l3.set kk {lf l3 kk with fo:=(lf l3 kk).fo++(aK vs b ((aK vs a ls).ls)).fi}) (k3.set kk {lk k3 kk with b:=z2,c:=vK})),wP,oP,kO,kP,gn] (gr 56 4 3 l3 k3) ⟨z2,vK,((lf l3 kk).fo++(aK vs b ((aK vs a ls).ls)).fi).map fun y:Nat=>(y:Int)⟩) ?_
   rw[show Rec.lZ 3 ⟨z2,vK,((lf l3 kk).fo++(aK vs b ((aK vs a ls).ls)).fi).map fun y:Nat=>(y:Int)⟩=ak z2 vK 3 1 ((aQ (lf l3 kk).fo)++(aQ ((aK vs b ((aK vs a ls).ls)).fi)))from congrArg (ak _ _ 3 1) ((e7 _).trans List.map_append)]
   exact(by exact Sub.rf),(l3.set kk {lf l3 kk with fo:=(lf l3 kk).fo++(aK vs b ((aK vs a ls).ls)).fi}),(k3.set kk {lk k3 kk with b:=z2,c:=vK}),F,by omega,by rw[Dh jo,←De,←Ke],by rw[List.length_set,List.length_set];exact rX,(.of F)⟩
 have Se: ¬i9<(aK vs a ls).la.length:=by omega
 refine bn ?_
 refine ai (ah F (ah F (TO.qa F (TO.qa F (ae (az (ao ?_)))))))
 refine ct (.slice Qd ((aK vs a ls).fi.length) Qe) (.slice Qg ((aK vs b ((aK vs a ls).ls)).la.length) Qh) Tryz.results73 F F ?_
 have e3:l3=(aK vs (Rx.kQ a b) ls).ls:=by rw[Ke,List.take_of_length_le (by omega)];rfl
 let qH:Lx.Item:=ak Qg Qh 3 1 (aQ ((aK vs b ((aK vs a ls).ls)).la))
 exact⟨[oI ob 114 [(du (aD cb) 0),(.slice Ce l3.length Cg),fv],ak Ce Cg 118 7 (cI l3 k3),ak Qd Qe 3 1 (aQ ((aK vs a ls).fi)),qH]++(bl 3 (ek l3 k3)++gr 56 4 3 l3 k3),(by exact Sub.k (.k (.d (.dL [qH] _ (.k (.d (.d .rf))))))),Ce,Cg,k3,Qd,Qe,Qg,Qh,F,by rw[←e3];rfl,by rw[←e3];exact rX,TL,PJ⟩
structure VK (cb:Nat) (eb:Option Addr) (en ec vs B:Nat) (e:List dE):Prop where
 pl:VC cb eb en ec vs B e
 uE: ∀(w:World) [cG Tryz.prog w],vs≤6→1≤B→B≤4096→Sl w (aD cb) [.slice eb en ec,vI (vs:Int),vI (B:Int)]→Sl w eb (aT e)→ ∀(ob:Nat) (fv:Value) (i:Nat) (a b:Rx) (j k:Nat),e[i]? =some ⟨5,0,0,(j:Int),(k:Int)⟩→nP w cb vs B ob fv a j→nP w cb vs B ob fv b k→nP w cb vs B ob fv (.uE a b) i
 behind: ∀(w:World) [cG Tryz.prog w],vs≤6→1≤B→B≤4096→Sl w (aD cb) [.slice eb en ec,vI (vs:Int),vI (B:Int)]→Sl w eb (aT e)→ ∀(ob:Nat) (fv:Value) (i:Nat) (a:Rx) (j:Nat),e[i]? =some ⟨10,0,0,(j:Int),0⟩→(∀(w1:World) [cG Tryz.prog w1],Inv w [] w1→dq Tryz.prog w1 (.iface 163 (.agg #[])) 72 [(du (aD cb) 0),vN j] [] (xY vs B a) (¬mx vs a B))→nP w cb vs B ob fv (.behind a) i
theorem rW {cb:Nat} {eb:Option Addr} {en ec vs B:Nat} {e:List dE} (h:C3 e=true):VK cb eb en ec vs B e:=
 ⟨yZ h,fun _ _ _ _ _ _ _ _ _ i _ _ _ _ hp=>absurd F (ln h hp).2.1,fun _ _ _ _ _ _ _ _ _ i _ _ hp=>absurd F (ln h hp).2.2.2.2⟩
theorem wk {cb:Nat} {eb:Option Addr} {en ec vs B:Nat} {e:List dE} (zh:VK cb eb en ec vs B e) (gm:vs≤6) (iP:1≤B) (hB:B≤4096) (kT:en=e.length) (ob:Nat) (fv:Value): ∀(t:Rx) (hw:t.wf=true) (i:Nat),B_ e t i→ ∀(w:World) [cG Tryz.prog w],Sl w (aD cb) [.slice eb en ec,vI (vs:Int),vI (B:Int)]→Sl w eb (aT e)→nP w cb vs B ob fv t i
 | .none,hw,i,hh,w,_,eu,hE=>lq w cb eb en ec vs B eu gm iP hB e hE kT i ob fv .none ⟨1,0,0,0,0⟩ hh (by simp) (by simp) (by simp) (by simp) F (fun _=>rfl) F (fun w1 _ hI=>iD zh.pl gm iP hB kT .none hw _ hh w1 (hI.sl eu) (hI.sl hE))
 | .empty,hw,i,hh,w,_,eu,hE=>lq w cb eb en ec vs B eu gm iP hB e hE kT i ob fv .empty ⟨2,0,0,0,0⟩ hh (by simp) (by simp) (by simp) (by simp) F (fun _=>rfl) F (fun w1 _ hI=>iD zh.pl gm iP hB kT .empty hw _ hh w1 (hI.sl eu) (hI.sl hE))
 | .letter p n,hw,i,hh,w,_,eu,hE=>lq w cb eb en ec vs B eu gm iP hB e hE kT i ob fv (.letter p n) ⟨3,p,n,0,0⟩ hh.1 (by simp) (by simp) (by simp) (by simp) F (fun _=>rfl) F (fun w1 _ hI=>iD zh.pl gm iP hB kT (.letter p n) hw _ hh w1 (hI.sl eu) (hI.sl hE))
 | .and a b,hw,i,hh,w,_,eu,hE=>by
  obtain⟨j,k,h,ha,hb⟩:=id hh
  exact lq w cb eb en ec vs B eu gm iP hB e hE kT i ob fv (.and a b) ⟨6,0,0,(j:Int),(k:Int)⟩ h (by simp) (by simp) (by simp) (by simp) F (fun _=>rfl) F (fun w1 _ hI=>iD zh.pl gm iP hB kT (.and a b) hw _ hh w1 (hI.sl eu) (hI.sl hE))
 | .not a,hw,i,hh,w,_,eu,hE=>by
  obtain⟨j,h,ha⟩:=id hh
  exact lq w cb eb en ec vs B eu gm iP hB e hE kT i ob fv (.not a) ⟨7,0,0,(j:Int),0⟩ h (by simp) (by simp) (by simp) (by simp) F (fun _=>rfl) F (fun w1 _ hI=>iD zh.pl gm iP hB kT (.not a) hw _ hh w1 (hI.sl eu) (hI.sl hE))
 | .star a,hw,i,hh,w,_,eu,hE=>by
  obtain⟨j,h,ha⟩:=id hh
  exact lq w cb eb en ec vs B eu gm iP hB e hE kT i ob fv (.star a) ⟨8,0,0,(j:Int),0⟩ h (by simp) (by simp) (by simp) (by simp) F (fun _=>rfl) F (fun w1 _ hI=>iD zh.pl gm iP hB kT (.star a) hw _ hh w1 (hI.sl eu) (hI.sl hE))
 | .kQ a b,hw,i,⟨j,k,h,ha,hb⟩,w,_,eu,hE=>IM w cb eb en ec vs B eu gm iP hB e hE kT i ob fv a b j k h (wk zh gm iP hB kT ob fv a (by simp only[Rx.wf,Bool.and_eq_true]at hw;exact hw.1) _ ha w eu hE) (wk zh gm iP hB kT ob fv b (by simp only[Rx.wf,Bool.and_eq_true]at hw;exact hw.2) _ hb w eu hE)
 | .uE a b,hw,i,⟨j,k,h,ha,hb⟩,w,_,eu,hE=>zh.uE w gm iP hB eu hE ob fv i a b j k h (wk zh gm iP hB kT ob fv a (by simp only[Rx.wf,Bool.and_eq_true]at hw;exact hw.1) _ ha w eu hE) (wk zh gm iP hB kT ob fv b (by simp only[Rx.wf,Bool.and_eq_true]at hw;exact hw.2) _ hb w eu hE)
 | .ahead a,hw,i,⟨j,h,ha⟩,w,_,eu,hE=>Dd w cb eb en ec vs B eu gm iP hB e hE kT i ob fv a j h (fun _=>rfl) (fun w1 _ hI=>iD zh.pl gm iP hB kT a hw _ ha w1 (hI.sl eu) (hI.sl hE))
 | .behind a,hw,i,⟨j,h,ha⟩,w,_,eu,hE=>zh.behind w gm iP hB eu hE ob fv i a j h (fun w1 _ hI=>iD zh.pl gm iP hB kT a hw _ ha w1 (hI.sl eu) (hI.sl hE))
end Go.Proofs.YtgdbfideeeegmaaGreatDoor


/- Contracts of functions of the program, and what they answer. Conditions: those each theorem names. -/
import Derived.Test.YtgdbfideeeegmaaGreatDoorA2
import Derived.Test.YtgdbfideeeegmaaGreatDoorA7
import Derived.Test.YtgdbfideeeegmaaGreatDoorA5
import Derived.Test.YtgdbfideeeegmaaGreatDoorA6
import Derived.Laws.StructEq
import Derived.Shelf.Small.Bits
import Derived.Test.YtgdbfideeeegmaaGreatDoorA0
set_option linter.unusedSectionVars false
set_option linter.unusedSimpArgs false
set_option linter.unusedVariables false
set_option linter.unnecessarySimpa false
set_option maxHeartbeats 8000000
set_option maxRecDepth 20000
namespace Go.Proofs.YtgdbfideeeegmaaGreatDoor
open Go.Lx Go.RowKit _root_.Go.Proofs.Tryz
theorem FQ (w:World) [dB Tryz.prog w] (lb:Option Addr) (lc:Nat) (l:List Int) (hL:Sl w lb (ints l)) (hn: ∀n∈l,my n) (hm:13*l.length≤800000):
  cA Tryz.prog 112 [nS,.slice lb l.length lc] w fun v N=> ∃b' c',v=.slice b' (iK l).length c'∧N=[aq b' c' 5 1 (di (iK l))]:=by
 refine cd.eY 5 1 ?_
 have h:=PK w none lb 0 0 lc [] l F hL hn (by omega)
 rw[Nat.zero_add,c8]at h
 exact h
theorem J8 (base:World) [dB Tryz.prog base] (a:cM) (ka:DK) (ha:At base a ka) (va:Valid a) (za:Nat) (tw:Sl base (aD za) (dC a ka)) (b:cM) (kb:DK) (hb:At base b kb) (vb:Valid b) (zb:Nat) (FR:Sl base (aD zb) (dC b kb)) (s:Nat) (hs:s<a.next.length) (sb:Option Addr) (c cv:Nat) (l:List Nat) (Jk:l.Pairwise (· < ·)) (HK: ∀t∈l,t<b.next.length):
  cd Tryz.prog base 153 [.agg #[vI ((s:Nat):Int),.slice sb l.length cv],(d_ (aD za) 0),(d_ (aD zb) 0)] [aq sb c 3 1 (bU l)] (fun v O'=> ∃b' c' c2,v=.agg #[vI ((s:Nat):Int),.slice b' (vk a b s l).length c']∧O'=[aq b' c2 3 1 (bU (vk a b s l))]):=by
 refine aG func153 F ntmps153 F ?_
 refine ai (ao F (dE (cs:=[vI ((s:Nat):Int),(.slice sb l.length cv)]) F F (fun z1=>?_)))
 refine ao F (bu lG F (fun z2=>?_))
 refine ae (aO (ai (ad (ck cS F dy F F (aJ tw) (by show _<4;decide)) (ad (c_ eu F F (aJ tw) F) (ad (bj nH F bl F F) (ad (bn 1 dS F F F F) (ad (dZ (i:=s) eu fw F F (aJ ha.aV) (by rw[va.fin];exact hs) (by rw[ar,va.fin];exact hs)) (ad (c_ Bh F F (aJ ha.aV) (oV va hs)) (ae (T.cond F (fun hc=>?_) (fun hc=>?_)))))))))))
 ·refine be ?_
  refine ad (bj nH F cU F F) (ad (bn 1 cI F F F F) (ad (ck cS F bl F F (aJ FR) (by show _<4;decide)) (ad (c_ dS F F (aJ FR) (show _=some (Value.int .i64 ((b.start.toNat:Nat):Int)) by rw[dn vb.s0];rfl)) (ao F (bm J9 (mR [2] (PN base b.next.length sb c cv l b.start.toNat Jk HK (ez vb.toVal) (by have:=eT (Jk.imp fun h=>Nat.ne_of_lt h) HK;have:=vb.n4;omega))) F ?_)))))
  rintro vr O' ⟨A1,rfl,wb,wc,VX,rfl,rfl⟩
  refine ad (bj nH F cU F F) (ao F (bV (vs:=[(.slice wb ((AB b.next.length l b.start.toNat).length) wc)]) 2 cU F F F F ?_))
  refine ae (ai (ad (ew 2 nH F lG F F F) (ao F (bV (vs:=[vI ((s:Nat):Int),(.slice wb ((AB b.next.length l b.start.toNat).length) wc)]) 1 lG F F F F ?_))))
  refine ae (aN (az ?_))
  refine cL (i:=1) Tryz.results153 nH F lG F F F ?_
  exact⟨[aq wb VX 3 1 (bU (AB b.next.length l b.start.toNat))],(by exact Sub.k .z),wb,wc,VX,by unfold vk;rw[aR hc];rfl,by unfold vk;rw[aR hc]⟩
 refine aE (ai (ad (ew 1 nH F lG F F F) (ao F (bV (vs:=[vI ((s:Nat):Int),(.slice sb l.length cv)]) 0 lG F F F F ?_))))
 refine ae (aN (az ?_))
 refine cL (i:=0) Tryz.results153 nH F lG F F F ?_
 exact⟨[aq sb c 3 1 (bU l)],(by exact Sub.d (.d (.k .z))),sb,cv,c,by unfold vk;rw[ay (by rw[hc];simp)];rfl,by unfold vk;rw[ay (by rw[hc];simp)]⟩
theorem NV (w:World) [dB Tryz.prog w] (s:Nat) (hs:s<4096) (sb:Option Addr) (c:Nat) (l:List Nat) (hS:Sl w sb (bU l)) (hl: ∀t∈l,t<4096) (HK:l.length≤4096):
  cA Tryz.prog 155 [.agg #[vI ((s:Nat):Int),.slice sb l.length c]] w fun v N=>v=str (zy (s,l))∧N=[]:=by
 refine aG func155 F ntmps155 F ?_
 let eJ:List Value:=[vI ((s:Nat):Int),(.slice sb l.length c)]
 refine ai (ao F (dE (cs:=eJ) F F (fun z1=>?_)))
 refine aj F (ae (aO ?_))
 refine fQ [(0,0),(1,0),(4,0),(5,0),(2,1),(3,1),(6,2),(7,2),(8,2)] ?_
 refine au F (bj nH F bl F F) (au F (bn 0 dS F F F F) (au F (bj nH F cU F F) (au F (bn 0 cI F F F F) ?_)))
 refine cx F F (cO (v:=vI ((s:Nat):Int)) cI bl F F F (fun z2=>⟨by exact Sub.d (.k .z),?_⟩))
 refine cx F F (bm ut (aX fun w1 hI=>(haveI:=ey hI;FQ w1 (aD z2) 1 [(s:Int)] (hI.gW (mG 0 F)) (fun n hn=>by simp at hn;subst hn;exact nf (by omega)) (by simp))) F ?_)
 rintro vr O' ⟨N,rfl,jb,jc,rfl,rfl⟩
 refine⟨by exact Sub.d (.d (.k .z)),?_⟩
 have vd:=cd.under (A:=[aq jb jc 5 1 (di (iK [(s:Int)]))]) (B:=[aq (aD z2) 1 3 1 [vI ((s:Nat):Int)],oI z1 208 eJ]) (O:=[aq jb jc 5 1 (di (iK [(s:Int)])),aq (aD z2) 1 3 1 [vI ((s:Nat):Int)],oI z1 208 eJ]) (show cd _ _ _ _ _ (fun v O'=> ∃b' c',v=.slice b' (zy (s,l)).length c'∧O'=[aq b' c' 5 1 (di (zy (s,l)))])from by
   have h9:=PK w jb sb jc (iK [(s:Int)]).length c (iK [(s:Int)]) (l.map fun y:Nat=>(y:Int)) F (by rw[gk];exact hS) (fun n hn=>by obtain⟨y,hy,rfl⟩:=List.mem_map.1 hn;exact nf (by have:=hl y hy;omega)) (by rw[ar];have:=ph (l:=[(s:Int)]) (fun n hn=>by simp at hn;subst hn;exact nf (by omega));simp only[bL,cN]at this;omega)
   rw[ar,←aF,←sj]at h9
   exact h9) (by exact Sub.rf)
 refine cu F F (bm ut vd F ?_)
 clear vd
 rintro vr O' ⟨A1,rfl,Yd,Ye,rfl,rfl⟩
 refine cu F F (eO F F (BG (l:=zy (s,l)) m_ vg fF F (mG 0 F) F) ?_)
 refine cu F F (eO F F (cq F) ?_)
 refine cy ?_
 refine aN (az ?_)
 refine aT (str (zy (s,l))) Tryz.results155 F ?_
 exact⟨[],Sub.z,F,F⟩
theorem J_ (w:World) [dB Tryz.prog w] (a:cM) (ka:DK) (ha:At w a ka) (va:Valid a) (za:Nat) (tw:Sl w (aD za) (dC a ka)) (b:cM) (kb:DK) (hb:At w b kb) (vb:Valid b) (zb:Nat) (FR:Sl w (aD zb) (dC b kb)) (yL:a.vars=b.vars) (zf:Nat) (VY:Sl w (aD zf) [(.func (.func 153) #[] #[(d_ (aD za) 0),(d_ (aD zb) 0)])]) (s:Nat) (hs:s<a.next.length) (sb:Option Addr) (c:Nat) (l:List Nat) (hS:Sl w sb (bU l)) (Jk:l.Pairwise (· < ·)) (hl: ∀t∈l,t<b.next.length) (x:Nat) (hx:x<dT a):
  cA Tryz.prog 156 [.agg #[vI ((s:Nat):Int),.slice sb l.length c],v8 x,(d_ (aD zf) 0),(d_ (aD za) 0),(d_ (aD zb) 0)] w fun v N=> ∃b' c' c2,v=.agg #[vI ((e7 a s x:Nat):Int),.slice b' (vk a b (e7 a s x) (fN b l x)).length c']∧N=[aq b' c2 3 1 (bU (vk a b (e7 a s x) (fN b l x)))]:=by
 refine aG func156 F ntmps156 F ?_
 have IX:=ha.rows.1
 obtain⟨v1,c1,g1,s1⟩:=ha.rows.get hs
 have JY:a.next[s].length=dT a:=va.len _ (aL hs)
 have DQ:x<a.next[s].length:=by rw[JY];exact hx
 have T6:x<dT b:=by unfold dT at hx⊢;rw[←yL];exact hx
 have HK:=eT (Jk.imp fun h=>Nat.ne_of_lt h) hl
 have hb4:=vb.n4
 have MC:=ng b l x
 refine ai (ao F (dE (cs:=[vI ((s:Nat):Int),(.slice sb l.length c)]) F F (fun z1=>?_)))
 refine ao F (bu lG F (fun z2=>?_))
 refine ae (aO ?_)
 refine T.ds [oI z2 208 [(vI 0),nS],oI z1 208 [vI ((s:Nat):Int),(.slice sb l.length c)]] [(0,0),(1,0),(2,0),(3,0),(4,0),(5,0),(6,0),(7,0),(8,0),(9,0),(10,0),(11,0),(12,0),(13,0),(14,1),(15,0),(16,2),(17,2)] (by exact Sub.rf) ?_
 refine au F (c_ PV F F (aJ VY) F) (au F (ck cS F fa F F (aJ tw) (by show _<4;decide)) (au F (c_ eI F F (aJ tw) F) (au F (bj nH F bl F F) (au F (bn 1 dS F F F F) (au F (dZ (i:=s) eI cU F F (aJ ha.outer) hs (IX▸hs)) (au F (c_ cI F F (aJ ha.outer) g1) (au F (aK F) ?_)))))))
 refine au F (dZ (i:=x) cI bl F F (aJ s1) DQ (by rw[ar];exact DQ)) (au F (c_ dS F F (aJ s1) (wK va hs hx)) (au F (eP (vs:=(dC b kb)) cS F bK F F (bw _) (aJ FR) (fun j hj=>by rw[Nat.zero_add];exact ap hj)) (au F (bj nH F cU F F) ?_)))
 refine au F (bn 1 cI F F F F) (au F (aK F) ?_)
 refine cx F F (bm Ka (aX fun w1 hI=>(haveI:=ey hI;PL w1 b kb (hI.oP hb) vb sb c l (hI.sl hS) hl (by omega) x T6)) F ?_)
 rintro vr O' ⟨N,rfl,tb,tc,rfl,rfl⟩
 refine⟨by exact Sub.d (.k (.k .z)),?_⟩
 refine au F (cF (cs:=[vI ((e7 a s x:Nat):Int),(.slice tb ((fN b l x).length) tc)]) FT lG (by kernel_rfl)) ?_
 have tu:=cQ (first:=[]) (args:=[.agg #[vI ((e7 a s x:Nat):Int),.slice tb (fN b l x).length tc]]) (gv:=[(d_ (aD za) 0),(d_ (aD zb) 0)]) Kb (cd.under (A:=[aq tb tc 3 1 (bU (fN b l x))]) (B:=[oI z2 208 [(vI 0),nS],oI z1 208 [vI ((s:Nat):Int),(.slice sb l.length c)]]) (O:=[aq tb tc 3 1 (bU (fN b l x)),oI z2 208 [(vI 0),nS],oI z1 208 [vI ((s:Nat):Int),(.slice sb l.length c)]]) (J8 w a ka ha va za tw b kb hb vb zb FR (e7 a s x) (va.gV hs hx).1 tb tc tc (fN b l x) MC.1 MC.2) (by exact Sub.rf))
 refine cu F F (fh tu F F ?_)
 clear tu
 rintro vr O' ⟨A1,rfl,eb,ec,ec2,rfl,rfl⟩
 refine cu F F (bV (vs:=[vI ((e7 a s x:Nat):Int),(.slice eb ((vk a b (e7 a s x) (fN b l x)).length) ec)]) 1 lG F F F F ?_)
 refine cy ?_
 refine aN (az ?_)
 refine cL (i:=1) Tryz.results156 nH F lG F F F ?_
 exact⟨[aq eb ec2 3 1 (bU (vk a b (e7 a s x) (fN b l x)))],(by exact Sub.k .z),eb,ec,ec2,F,F⟩
theorem NW (w:World) [dB Tryz.prog w] (b:cM) (kb:DK) (hb:At w b kb) (vb:Valid b) (zb:Nat) (FR:Sl w (aD zb) (dC b kb)) (s:Nat) (sb:Option Addr) (c:Nat) (l:List Nat) (hS:Sl w sb (bU l)) (hl: ∀t∈l,t<b.next.length) (HK:l.length≤4096):
  cA Tryz.prog 157 [.agg #[vI ((s:Nat):Int),.slice sb l.length c],(d_ (aD zb) 0)] w fun v N=>v=.bool (RS b (s,l))∧N=[]:=by
 refine aG func157 F ntmps157 F ?_
 refine ai (ao F (dE (cs:=[vI ((s:Nat):Int),(.slice sb l.length c)]) F F (fun z1=>?_)))
 refine aj F (ae (ai ?_))
 refine ad (eP (vs:=(dC b kb)) cS F bK F F (bw _) (aJ FR) (fun j hj=>by rw[Nat.zero_add];exact ap hj)) (ad (bj nH F cU F F) (ad (bn 0 cI F F F F) ?_))
 refine ao F (bm AD (aX fun w1 hI=>(haveI:=ey hI;wo w1 b kb (hI.oP hb) vb sb c l (hI.sl hS) hl (by omega))) F ?_)
 rintro vr O' ⟨N,rfl,rfl,rfl⟩
 refine aj F (ae (aN (az ?_)))
 refine aT (.bool (l.any (dD b))) Tryz.results157 F ?_
 exact⟨[],Sub.z,F,F⟩
end Go.Proofs.YtgdbfideeeegmaaGreatDoor

namespace Go.Proofs.YtgdbfideeeegmaaGreatDoor
open Go.Lx Go.RowKit _root_.Go.Proofs.Tryz
theorem CB {b:Bool} {i:Int} (h:(b=false∧i= -1)∨ ∃k:Nat,i=(k:Int)∧b=true):decide (i≥0)=b:=by
 rcases h with⟨rfl,rfl⟩|⟨k,rfl,rfl⟩
 ·decide
 ·exact av (by omega)
theorem CC (base:World) [dB Tryz.prog base] (b:Option Addr) (c:Nat) (xs:List CR) (hS:Sl base b (du xs)) (hb:xs.length<4611686018427387904) (fv:Value) (p:CR→Bool) (hy: ∀x∈xs,eK Tryz.prog base fv [(.agg #[vI x.k,vN x.s,(.slice x.r.b x.r.o.length x.r.c)])] [] (fun v O'=>v=.bool (p x)∧O'=[])):
  cd Tryz.prog base 167 [.slice b xs.length c,fv] [] (fun v O'=> ∃i:Int,v=vI i∧((xs.any p=false∧i= -1)∨ ∃k:Nat,i=(k:Int)∧xs.any p=true)∧O'=[]):=by
 refine aG func167 F ntmps167 F ?_
 refine ai (aj F (ae (aO (ai (ah F (ad (cP nI F) (ah F (ae (aU ?_)))))))))
 refine et (fun(k:Nat) ρ O=>O=[]∧k≤xs.length∧(xs.take k).any p=false∧dt [(0,(.slice b xs.length c)),(1,fv),(7,vI (xs.length:Int)),(8,vI (k:Int))] ρ) (fun k=>xs.length-k) 0 ?_ ?_
 ·exact⟨F,bs _,F,⟨F,F,F,F,trivial⟩⟩
 rintro k ρ O ⟨rfl,hk,kZ,hH⟩
 obtain⟨gP,rfl⟩:=hH.elim
 clear hH
 refine ai (ad (cR F F) (ae (aO (aP F (fun hc=>?_) (fun hc=>?_)))))
 ·have ki:k<xs.length:=by omega
  refine aE (aO (aU (ai (ah F (aj F (ae (ai (ah F (ah F (ah F (ad (dU (i:=k) nI jk F F (aJ hS) ki (by rw[pj];omega)) (ad (eP (vs:=[vI xs[k].k,vN (xs[k].s),(.slice xs[k].r.b xs[k].r.o.length xs[k].r.c)]) lq F jk F F (bw _) (aJ hS) (so ki)) ?_))))))))))))
  have qw:=hy xs[k] (aL ki)
  refine ao F (fh qw F F ?_)
  clear qw
  rintro vr O' ⟨rfl,rfl⟩
  refine ae (T.cond F (fun hc=>?_) (fun hc=>?_))
  ·refine aO ?_
   refine be (ah F (aj F (ae (aN (az ?_)))))
   refine aT (vI (k:Int)) Tryz.results167 F ?_
   exact⟨[],Sub.z,k,F,.inr ⟨k,F,wm ki hc⟩,F⟩
  refine aE (be (ad (dx (a:=k) (b:=1) F F (by omega)) (ah F (ae ?_))))
  exact⟨k+1,by omega,F,by omega,re ki kZ hc,⟨F,F,F,F,trivial⟩⟩
 have JX: ¬k<xs.length:=by omega
 refine cG ?_
 refine ai (aj F (ae (aN (az ?_))))
 refine aT (vI (-1)) Tryz.results167 F ?_
 exact⟨[],Sub.z, -1,F,.inl ⟨by rw[bt (by omega)]at kZ;exact kZ,F⟩,F⟩
theorem qD (base:World) [dB Tryz.prog base] (b:Option Addr) (c:Nat) (xs:List CR) (hS:Sl base b (du xs)) (hb:xs.length<4611686018427387904) (fv:Value) (p:CR→Bool) (hy: ∀x∈xs,eK Tryz.prog base fv [(.agg #[vI x.k,vN x.s,(.slice x.r.b x.r.o.length x.r.c)])] [] (fun v O'=>v=.bool (p x)∧O'=[])):
  cd Tryz.prog base 116 [.slice b xs.length c,fv] [] (fun v O'=>v=.bool (xs.any p)∧O'=[]):=by
 refine aG func116 F ntmps116 F ?_
 refine ai (aj F (ae (ai (ah F (ah F ?_)))))
 have Cg:=CC base b c xs hS hb fv p hy
 refine ao F (bm Sh Cg F ?_)
 clear Cg
 rintro v O' ⟨i,rfl,hi,rfl⟩
 refine ad (lR F F) (aj F (ae (aN (az ?_))))
 refine aT (.bool (decide (i≥0))) Tryz.results116 F ?_
 exact⟨[],Sub.z,ax Value.bool (CB hi),F⟩
theorem AI (base:World) [dB Tryz.prog base] (b:Option Addr) (c:Nat) (xs:List eE) (hS:Sl base b (bX xs)) (hb:xs.length<4611686018427387904) (fv:Value) (p:eE→Bool) (hy: ∀x∈xs,eK Tryz.prog base fv [x.ag] [] (fun v O'=>v=.bool (p x)∧O'=[])):
  cd Tryz.prog base 100 [.slice b xs.length c,fv] [] (fun v O'=> ∃i:Int,v=vI i∧((xs.any p=false∧i= -1)∨ ∃k:Nat,i=(k:Int)∧xs.any p=true)∧O'=[]):=by
 refine aG func100 F ntmps100 F ?_
 refine ai (aj F (ae (aO (ai (ah F (ad (cP dJ F) (ah F (ae (aU ?_)))))))))
 refine et (fun(k:Nat) ρ O=>O=[]∧k≤xs.length∧(xs.take k).any p=false∧dt [(0,(.slice b xs.length c)),(1,fv),(7,vI (xs.length:Int)),(8,vI (k:Int))] ρ) (fun k=>xs.length-k) 0 ?_ ?_
 ·exact⟨F,bs _,F,⟨F,F,F,F,trivial⟩⟩
 rintro k ρ O ⟨rfl,hk,kZ,hH⟩
 obtain⟨gP,rfl⟩:=hH.elim
 clear hH
 refine ai (ad (cR F F) (ae (aO (aP F (fun hc=>?_) (fun hc=>?_)))))
 ·have ki:k<xs.length:=by omega
  refine aE (aO (aU (ai (ah F (aj F (ae (ai (ah F (ah F (ah F (ad (dU (i:=k) dJ cK F F (aJ hS) ki (by rw[cz];omega)) (ad (eP (vs:=xs[k].cl) cp F cK F F (bw _) (aJ hS) (lE ki)) ?_))))))))))))
  have qw:=hy xs[k] (aL ki)
  refine ao F (fh qw F F ?_)
  clear qw
  rintro vr O' ⟨rfl,rfl⟩
  refine ae (T.cond F (fun hc=>?_) (fun hc=>?_))
  ·refine aO ?_
   refine be (ah F (aj F (ae (aN (az ?_)))))
   refine aT (vI (k:Int)) Tryz.results100 F ?_
   exact⟨[],Sub.z,k,F,.inr ⟨k,F,wm ki hc⟩,F⟩
  refine aE (be (ad (dx (a:=k) (b:=1) F F (by omega)) (ah F (ae ?_))))
  exact⟨k+1,by omega,F,by omega,re ki kZ hc,⟨F,F,F,F,trivial⟩⟩
 have JX: ¬k<xs.length:=by omega
 refine cG ?_
 refine ai (aj F (ae (aN (az ?_))))
 refine aT (vI (-1)) Tryz.results100 F ?_
 exact⟨[],Sub.z, -1,F,.inl ⟨by rw[bt (by omega)]at kZ;exact kZ,F⟩,F⟩
theorem pH (base:World) [dB Tryz.prog base] (b:Option Addr) (c:Nat) (xs:List eE) (hS:Sl base b (bX xs)) (hb:xs.length<4611686018427387904) (fv:Value) (p:eE→Bool) (hy: ∀x∈xs,eK Tryz.prog base fv [x.ag] [] (fun v O'=>v=.bool (p x)∧O'=[])):
  cd Tryz.prog base 70 [.slice b xs.length c,fv] [] (fun v O'=>v=.bool (xs.any p)∧O'=[]):=by
 refine aG func70 F ntmps70 F ?_
 refine ai (aj F (ae (ai (ah F (ah F ?_)))))
 have Cg:=AI base b c xs hS hb fv p hy
 refine ao F (bm Si Cg F ?_)
 clear Cg
 rintro v O' ⟨i,rfl,hi,rfl⟩
 refine ad (lR F F) (aj F (ae (aN (az ?_))))
 refine aT (.bool (decide (i≥0))) Tryz.results70 F ?_
 exact⟨[],Sub.z,ax Value.bool (CB hi),F⟩
theorem Wk (base:World) [dB Tryz.prog base] (b lb:Option Addr) (c m lc lv:Nat) (xs:List UInt8) (l:List Int) (hx:xs.length=m) (hn: ∀n∈l,my n) (hm:m+13*l.length≤800000):
  cd Tryz.prog base 112 [.slice b m c,.slice lb l.length lv] [aq b c 5 1 (di xs),aq lb lc 3 1 (ints l)] (fun v O'=> ∃b' c',v=.slice b' (m+(iK l).length) c'∧O'=[aq b' c' 5 1 (di (xs++iK l)),aq lb lc 3 1 (ints l)]):=by
 refine aG func112 F ntmps112 F ?_
 refine ai (aj F (ae (aO (ai (ah F (ad (cP cI F) (ah F (ae (aU ?_)))))))))
 refine dM (fun(i:Nat) ρ O=> ∃(jb:Option Addr) (jc:Nat),O=[aq jb jc 5 1 (di (xs++iK (l.take i))),aq lb lc 3 1 (ints l)]∧i≤l.length∧dt [(0,(.slice jb (m+(iK (l.take i)).length) jc)),(1,(.slice lb l.length lv)),(4,nS),(7,(.slice lb l.length lv)),(8,vI (l.length:Int)),(9,vN i)] ρ) (fun i=>l.length-i) 0 ?_ ?_
 ·exact⟨b,c,by simp[iK],bs _,⟨(by show Value.slice b m c=_;simp[iK]),F,F,F,F,F,trivial⟩⟩
 rintro i ρ O ⟨jb,jc,rfl,hi,hH⟩
 obtain⟨gP,rfl⟩:=hH.elim
 clear hH
 have Mx:=ph (l:=l.take i) fun n h=>hn n (List.mem_of_mem_take h)
 have gn:=List.length_take_le i l
 refine ai (ad (cR F F) (ae (aO (aP F (fun hc=>?_) (fun hc=>?_)))))
 ·have ln:i<l.length:=by omega
  have hdl:=qv (hn _ (aL ln))
  refine aE (aO (aU (ai (ad (dZ (i:=i) cI bl F F (dX (mG 1 F)) ln (by rw[ar];exact ln)) (ad (c_ dS F F (dX (mG 1 F)) (gI ln)) (aj F (ae (be (ah F (ah F (ao F (bm Az (mR [0] (VN base jb jc (m+(iK (l.take i)).length) (xs++iK (l.take i)) l[i] (by simp[hx]) (hn _ (aL ln)) (by omega))) F ?_))))))))))))
  rintro vr O' ⟨A1,rfl,b2,c2,rfl,rfl⟩
  refine ao F (cO (v:=.int .u8 32) m_ dF F F F (fun nP=>?_))
  refine ao F (dh 1 m_ m_ dF F F F F (by simp[hx,Nat.add_assoc]) (by decide) (Src.row (j:=0) F (by simp)) (by simp[fu]) (by have:=qv (hn _ (aL ln));omega) (by decide) (by decide) (fun xy c3=>?_))
  refine aj F (ae (be (ad (dx (a:=i) (b:=1) F F (by omega)) (ah F (ae ?_)))))
  have e9:=Ce ln
  exact⟨i+1,by omega,[aq xy c3 5 1 ((di (xs++iK (l.take i)++kg l[i]))++[.int .u8 32]),aq lb lc 3 1 (ints l)],(by exact Sub.d (.k (.k .z))),xy,c3,by rw[e9,←aI,←aI,show di (xs++iK (l.take i)++kg l[i]++[32])=di (xs++iK (l.take i)++kg l[i])++[Value.int .u8 32]from bo],by omega,⟨(ax (fun n9=>Value.slice xy n9 c3) (show m+(iK (l.take i)).length+(kg l[i]).length+1=m+(iK (l.take (i+1))).length by rw[e9];simp only[aF,bL,cN,Nat.add_assoc])),F,F,F,F,F,trivial⟩⟩
 have vh: ¬i<l.length:=by omega
 refine cG ?_
 refine ai (ah F (aj F (ae (aN ?_))))
 refine aT (.slice jb (m+(iK (l.take i)).length) jc) Tryz.results112 F ?_
 have wj:i=l.length:=by omega
 subst wj
 rw[List.take_length]
 exact⟨jb,jc,F,F⟩
theorem Ez (w:World) [dB Tryz.prog w] (k:Int) (s:Nat) (r:OB) (hr:Sl w r.b (fA r.o)) (hn: ∀n∈k::(s:Int)::sq r.o,my n) (hl:r.o.length≤64):
  cA Tryz.prog 110 [.agg #[vI k,vN s,.slice r.b r.o.length r.c]] w fun v N=>v=str (iK (k::(s:Int)::sq r.o))∧N=[]:=by
 refine aG func110 F ntmps110 F ?_
 refine ai (ao F (dE (cs:=[vI k,vN s,(.slice r.b r.o.length r.c)]) F F (fun z1=>?_)))
 refine aj F (ae (ai (ad (bj lq F bl F F) (ad (bn 0 dS F F F F) (ad (bj lq F bl F F) (ad (bn 0 dS F F F F) (ao F (cH (m:=2) (parts:=[(0,.tmp 7),(1,.tmp 9)]) (cs:=[vI k,vN s]) cI bl (by decide) (by kernel_rfl) F (fun z2=>?_)))))))))
 refine ao F (bm ut (aX fun w1 hI=>(haveI:=ey hI;FQ w1 (aD z2) 2 [k,(s:Int)] (hI.gW (mG 0 F)) (fun n h9=>hn n (by simp only[df,List.not_mem_nil,or_false]at h9⊢;rcases h9 with h9|h9<;>simp[h9])) (by simp))) F ?_)
 rintro vr O' ⟨N,rfl,jb,jc,rfl,rfl⟩
 refine aj F (ae (aO (ai (ad (bj lq F AJ F F) (ad (bn 2 ju F F F F) (ad (cP ju F) (ah F (ae (aU ?_)))))))))
 refine dM (fun(i:Nat) ρ O=> ∃(jb:Option Addr) (jc:Nat),O=[aq jb jc 5 1 (di (iK (k::(s:Int)::sq (r.o.take i)))),aq (aD z2) 2 3 1 [vI k,vN s],oI z1 169 [vI k,vN s,(.slice r.b r.o.length r.c)]]∧i≤r.o.length∧dt [(0,(.agg #[vI k,vN s,(.slice r.b r.o.length r.c)])),(1,(.pointer (aD z1))),(2,(str [])),(3,(.slice jb ((iK (k::(s:Int)::sq (r.o.take i))).length) jc)),(13,(.slice r.b r.o.length r.c)),(14,vI (r.o.length:Int)),(15,vN i)] ρ) (fun i=>r.o.length-i) 0 ?_ ?_
 ·exact⟨jb,jc,F,bs _,(.of F)⟩
 rintro i ρ O ⟨jb,jc,rfl,hi,hH⟩
 obtain⟨gP,rfl⟩:=hH.elim
 clear hH
 have Q2: ∀n∈k::(s:Int)::sq (r.o.take i),my n:=fun n hn9=>hn n (by
  simp only[df]at hn9⊢
  rcases hn9 with h9|h9|h9
  ·exact .inl h9
  ·exact .inr (.inl h9)
  ·exact .inr (.inr (by obtain⟨p,hp,h8⟩:=List.mem_flatMap.1 h9;exact List.mem_flatMap.2 ⟨p,List.mem_of_mem_take hp,h8⟩)))
 have Mx:=ph Q2
 have Sj:(sq (r.o.take i)).length≤128:=by rw[FW,cw];omega
 simp only[bL]at Mx
 refine ai (ad (cR F F) (ae (aO (aP F (fun hc=>?_) (fun hc=>?_)))))
 ·have CD:i<r.o.length:=by omega
  refine aE (aO (aU (ai (ad (dU (i:=i) ju gM F F (aJ hr) CD (by rw[jG];omega)) (ad (eP (vs:=[vN (r.o[i].1),vN (r.o[i].2)]) j3 F gM F F (bw _) (aJ hr) (ni CD)) (ao F (bu gM F (fun z3=>?_))))))))
  refine ao F (bV (vs:=[vN (r.o[i].1),vN (r.o[i].2)]) 0 gM F F F F ?_)
  refine ae (be (ah F (ad (js (i:=0) j3 bl F F (by decide)) (ad (bn 0 dS F F F F) (ad (js (i:=1) j3 bl F F (by decide)) (ad (bn 0 dS F F F F) (ao F (cH (m:=2) (parts:=[(0,.tmp 21),(1,.tmp 23)]) (cs:=[vN (r.o[i].1),vN (r.o[i].2)]) cI bl (by decide) (by kernel_rfl) F (fun z4=>?_)))))))))
  have qy:=cd.under (A:=[aq jb jc 5 1 (di (iK (k::(s:Int)::sq (r.o.take i)))),aq (aD z4) 2 3 1 [vN (r.o[i].1),vN (r.o[i].2)]]) (B:=[oI z3 173 [vN (r.o[i].1),vN (r.o[i].2)],aq (aD z2) 2 3 1 [vI k,vN s],oI z1 169 [vI k,vN s,(.slice r.b r.o.length r.c)]]) (O:=[aq (aD z4) 2 3 1 [vN (r.o[i].1),vN (r.o[i].2)],oI z3 173 [vN (r.o[i].1),vN (r.o[i].2)],aq jb jc 5 1 (di (iK (k::(s:Int)::sq (r.o.take i)))),aq (aD z2) 2 3 1 [vI k,vN s],oI z1 169 [vI k,vN s,(.slice r.b r.o.length r.c)]]) (show cd _ _ _ _ _ (fun v O'=> ∃b' c',v=.slice b' (iK (k::(s:Int)::sq (r.o.take i))++iK [(r.o[i].1:Int),(r.o[i].2:Int)]).length c'∧O'=[aq b' c' 5 1 (di (iK (k::(s:Int)::sq (r.o.take i))++iK [(r.o[i].1:Int),(r.o[i].2:Int)])),aq (aD z4) 2 3 1 [vN (r.o[i].1),vN (r.o[i].2)]])from by
    have h9:=Wk w jb (aD z4) jc (iK (k::(s:Int)::sq (r.o.take i))).length 2 2 (iK (k::(s:Int)::sq (r.o.take i))) [(r.o[i].1:Int),(r.o[i].2:Int)] F (fun n h9=>hn n (by
     have h8:n∈sq r.o:=List.mem_flatMap.2 ⟨r.o[i],aL CD,h9⟩
     exact List.mem_cons_of_mem _ (List.mem_cons_of_mem _ h8))) (by simp only[bL,cN];omega)
    rw[aF]
    exact h9) (by exact Sub.eQ [aq (aD z4) 2 3 1 [vN (r.o[i].1),vN (r.o[i].2)],oI z3 173 [vN (r.o[i].1),vN (r.o[i].2)]] _ (.k (.k (.k (.k .z)))))
  refine ao F (bm ut qy F ?_)
  clear qy
  rintro vr O' ⟨A1,rfl,Yd,Ye,rfl,rfl⟩
  refine aj F (ae (be (ad (dx (a:=i) (b:=1) F F (by omega)) (ah F (ae ?_)))))
  have e9:iK (k::(s:Int)::sq (r.o.take (i+1)))=iK (k::(s:Int)::sq (r.o.take i))++iK [(r.o[i].1:Int),(r.o[i].2:Int)]:=by rw[aH CD,KC,←cJ,←cJ,sj]
  exact⟨i+1,by omega,[aq Yd Ye 5 1 (di (iK (k::(s:Int)::sq (r.o.take i))++iK [(r.o[i].1:Int),(r.o[i].2:Int)])),aq (aD z2) 2 3 1 [vI k,vN s],oI z1 169 [vI k,vN s,(.slice r.b r.o.length r.c)]],(by exact Sub.k (.d (.d (.k (.k .z))))),Yd,Ye,by rw[e9],by omega,⟨F,F,F,(ax (fun n9:Nat=>Value.slice Yd n9 Ye) (by rw[e9,aF])),F,F,F,trivial⟩⟩
 have Wl: ¬i<r.o.length:=by omega
 refine cG ?_
 refine ai (ah F (ad (BG (l:=iK (k::(s:Int)::sq (r.o.take i))) m_ vg fF F (mG 0 F) F) (aj F (ae (aN (az ?_))))))
 refine aT (str (iK (k::(s:Int)::sq (r.o.take i)))) Tryz.results110 F ?_
 have wj:i=r.o.length:=by omega
 subst wj
 rw[List.take_length]
 exact⟨[],Sub.z,F,F⟩
theorem Wm (w:World) [dB Tryz.prog w] (x y:CR) (zx:Nat) (hzx:Sl w (aD zx) x.cells) (hx:Sl w x.r.b (fA x.r.o)) (ME: ∀n∈x.cf.nums,my n) (Wn:x.r.o.length≤64) (hy:Sl w y.r.b (fA y.r.o)) (hny: ∀n∈y.cf.nums,my n) (hly:y.r.o.length≤64):
  cA Tryz.prog 166 [.agg y.cells.toArray,(d_ (aD zx) 0)] w fun v N=>v=.bool (decide (y.cf.key=x.cf.key))∧N=[]:=by
 refine aG func166 F ntmps166 F ?_
 refine ai (ao F (dE (cs:=[vI y.k,vN y.s,(.slice y.r.b y.r.o.length y.r.c)]) F F (fun nP=>?_)))
 refine aj F (ae (aO ?_))
 refine fQ [(0,0),(2,0),(1,1),(3,2),(4,2),(5,2)] ?_
 refine au F (ew 0 lq F jk F F F) (au F (eP (vs:=[vI x.k,vN x.s,(.slice x.r.b x.r.o.length x.r.c)]) lq F jk F F (bw _) (aJ hzx) (fun j hj=>by rw[Nat.zero_add];exact ap hj)) ?_)
 refine cx F F (bm EA (aX fun w1 hI=>(haveI:=ey hI;Ez w1 y.k y.s y.r (hI.sl hy) hny hly)) F ?_)
 rintro vr O' ⟨N,rfl,rfl,rfl⟩
 refine⟨by exact Sub.rf,?_⟩
 refine cu F F (bm EA (aX fun w1 hI=>(haveI:=ey hI;Ez w1 x.k x.s x.r (hI.sl hx) ME Wn)) F ?_)
 rintro vr O' ⟨N,rfl,rfl,rfl⟩
 refine cu F F (eO F F (KD F F) ?_)
 refine cu F F (eO F F (cq F) ?_)
 refine cy ?_
 refine aN (az ?_)
 refine aT (.bool (decide (y.cf.key=x.cf.key))) Tryz.results166 F ?_
 exact⟨[],Sub.z,F,F⟩
end Go.Proofs.YtgdbfideeeegmaaGreatDoor

namespace Go.Proofs.YtgdbfideeeegmaaGreatDoor
open Go.Lx Go.RowKit _root_.Go.Proofs.Tryz
theorem KE {ls:List Lf} {vs:Nat} (hG:ji ls vs) {l:List CR} {x:CR} (hl: ∀y∈l,jv ls y.cf) (hx:jv ls x.cf):(l.any fun y=>decide (y.cf.key=x.cf.key))=decide (x.cf∈l.map CR.cf):=by
 by_cases h:x.cf∈l.map CR.cf
 ·rw[av h]
  obtain⟨y,hy,e⟩:=List.mem_map.1 h
  exact List.any_eq_true.2 ⟨y,hy,av (by rw[e])⟩
 ·rw[ak h,List.any_eq_false]
  intro y hy h9
  exact h (List.mem_map.2 ⟨y,hy,key_inj hG (hl y hy) hx (of_decide_eq_true h9)⟩)
theorem ZL (base:World) [dB Tryz.prog base] {ls:List Lf} {vs:Nat} (hG:ji ls vs) (ov:Value) (zs:Nat) (bh:Value) (cb:Option Addr) (cc:Nat) (l:List CR) (p:List OB) (x:CR) (hl: ∀y∈l,jv ls y.cf) (hp: ∀y∈l,lZ p y.r) (hx:jv ls x.cf) (Mu:lZ p x.r) (hK:l.length<1099511627776):
  cd Tryz.prog base 114 [ov,(.pointer (aD zs)),(.agg #[vI x.k,vN x.s,(.slice x.r.b x.r.o.length x.r.c)])] ([oI zs 122 [bh,(.slice cb l.length cc)],aq cb cc 169 3 (du l)]++fZ 173 p) (fun v O'=> ∃uv uw,v=.tuple #[]∧O'=[oI zs 122 [bh,(.slice uv ((yM l x).length) uw)],aq uv uw 169 3 (du (yM l x))]++fZ 173 p):=by
 refine aG func114 F ntmps114 F ?_
 refine ai (ao F (dE (cs:=[vI x.k,vN x.s,(.slice x.r.b x.r.o.length x.r.c)]) F F (fun z1=>?_)))
 refine ae (ai (ad (e8) (aj F (ae (ai (ah F (ad (bf F) (ad (bj lW F qE F F) (ad (bn 1 nI F F F F) (ah F ?_))))))))))
 have xu:=fun(w1:World) (hI:Inv base ([oI z1 169 [vI x.k,vN x.s,(.slice x.r.b x.r.o.length x.r.c)],oI zs 122 [bh,(.slice cb l.length cc)],aq cb cc 169 3 (du l)]++(fZ 173 p)) w1)=>(haveI:=ey hI;(show cA _ _ _ _ (fun v N=>v=Value.bool (decide (x.cf∈l.map CR.cf))∧N=[])from by
   have h9:=qD w1 cb cc l (hI.gW (mG 2 F)) (by omega) ((.func (.func 166) #[] #[(d_ (aD z1) 0)])) (fun y=>decide (y.cf.key=x.cf.key)) (fun y hy=>cQ (first:=[]) (args:=[(.agg #[vI y.k,vN y.s,(.slice y.r.b y.r.o.length y.r.c)])]) (gv:=[(d_ (aD z1) 0)]) Sk (Wm w1 x y z1 (hI.jZ (mG 0 F)) (lZ.sl (T:=173) hI (fun it fC=>am _ fC) Mu) (hx.num hG) (hx.Sm hG) (lZ.sl (T:=173) hI (fun it fC=>am _ fC) (hp y hy)) ((hl y hy).num hG) ((hl y hy).Sm hG)))
   rw[KE hG hl hx]at h9
   exact h9))
 refine ao F (bm KF (aX xu) F ?_)
 clear xu
 rintro vr O' ⟨N,rfl,rfl,rfl⟩
 refine ad (i_ F) (ae (T.cond F (fun hc=>?_) (fun hc=>?_)))
 ·refine T.ds [oI z1 169 [vI x.k,vN x.s,(.slice x.r.b x.r.o.length x.r.c)],oI zs 122 [bh,(.slice cb l.length cc)]] [(0,0),(1,0),(2,0),(3,0),(4,0),(5,0),(6,1),(7,1),(8,0),(9,0),(10,2)] (by exact Sub.k (.k .z)) ?_
  refine au F (aK F) (au F (aK F) (au F (bf F) (au F (bj lW F qE F F) (au F (bn 1 nI F F F F) (au F (ew 0 lq F jk F F F) ?_)))))
  refine cx F F (cH (m:=1) (parts:=[(0,_)]) (cs:=[vI x.k,vN x.s,(.slice x.r.b x.r.o.length x.r.c)]) nI jk (by decide) (by kernel_rfl) F (fun z2=>⟨by exact Sub.d (.k (.k .z)),?_⟩))
  refine cx F F (dh 3 nI nI jk F F F F (by rw[pj]) (by decide) (Src.row (j:=0) F (by simp)) (by simp[fu]) (by omega) (by decide) (by decide) (fun z3 nU=>⟨by exact Sub.d (.k (.k .z)),?_⟩))
  refine au F (bf F) (au F (bj lW F qE F F) ?_)
  refine cu F F (bV (vs:=[(.slice z3 (l.length+1) nU)]) 2 qE F F F F ?_)
  refine cy ?_
  refine az ?_
  refine ru.zero Tryz.results114 ?_
  have e9:yM l x=l++[x]:=ay (by simpa using hc)
  exact⟨[oI zs 122 [bh,(.slice z3 (l.length+1) nU)],aq z3 nU 169 3 ((du l)++[vI x.k,vN x.s,(.slice x.r.b x.r.o.length x.r.c)])]++fZ 173 p,(by exact Sub.d (.d (.k (.k .rf)))),z3,nU,F,by rw[e9,CE,aF];rfl⟩
 refine aE (az ?_)
 refine ru.zero Tryz.results114 ?_
 have e9:yM l x=l:=aR (by simpa using hc)
 exact⟨[oI zs 122 [bh,(.slice cb l.length cc)],aq cb cc 169 3 (du l)]++fZ 173 p,(by exact Sub.d (.k (.k .rf))),cb,cc,F,by rw[e9]⟩
end Go.Proofs.YtgdbfideeeegmaaGreatDoor

namespace Go.Lx
open Go.RowKit
section
variable {P:Program} {base:World} {O:List Item} {ρ:Env} {dst:Option Nat} {t:TypeId} {p:String} {af:Array Edge} {g:Option (Nat×Bool)}
theorem EV {T E:TypeId} {z:Value} {gN:Nat} (hu:P.underlying T=some (.array 2 E)) (hE:P.underlying E=some (.int .i64)) (hi:fK P E z 1 gN) (n:Nat) (a b c d:Int) (w:World):
  (Op.equalIn (n+2) T (.agg #[.int .i64 a,.int .i64 b]) (.agg #[.int .i64 c,.int .i64 d])).run P w=.ok (decide (a=c∧b=d)) w:=by
 have hs: ∀w,(Go.sizeOf E).run P w=.ok 1 w:=fun w=>bZ hi w
 have he: ∀(u v:Int) w,(Op.equalIn (n+1) E (.int .i64 u) (.int .i64 v)).run P w=.ok (u==v) w:=fun u v w=>run_equalIn_int w n E .i64 .i64 u v hE
 have Q5: ∀w,(isAgg E).run P w=.ok false w:=fun w=>by simp[isAgg,bH hE]
 rw[Op.equalIn]
 generalize hq:Op.equalIn (n+1) E=q at he
 simp only[Sem.run_bind,bH hu,Result.andThen_ok,hs]
 by_cases h1:a=c
 ·by_cases h2:b=d
  ·subst h1 h2
   simp[List.range',part,he,Q5,hs,hq]
  ·subst h1
   simp[List.range',part,he,Q5,hs,h2,hq]
 ·simp[List.range',part,he,Q5,hs,h1,hq]
theorem HR {x y:Operand} {T U E:TypeId} {a b c d:Int} {z:Value} {gN:Nat} (hu:P.underlying T=some (.array 2 E)) (hE:P.underlying E=some (.int .i64)) (hi:fK P E z 1 gN) (hm:P.eqGuardType P.depth T=false)
  (hx:ev ρ x=.agg #[.int .i64 a,.int .i64 b]) (hy:ev ρ y=.agg #[.int .i64 c,.int .i64 d]):QT P base ⟨dst,.binOp .eql T x y U,t,p,af,g⟩ ρ O (.bool (decide (a=c∧b=d))):=fun w _=>by
 have h:=EV hu hE hi 9998 a b c d w
 simp[execOp,hx,hy,run_eqGuard_agg w .eql T x y _ _ hm,run_eql_struct,h]
theorem xF {x:Operand} {T E:TypeId} {b m gN:Nat} {z:Value} (hu:P.underlying T=some (.array m E)) (hi:fK P E z 1 gN) (hx:ev ρ x=.pointer (some ⟨b,0,none⟩)) (h0:1≤m):
  QT P base ⟨dst,.slice T x none none none,t,p,af,g⟩ ρ O (.slice (some ⟨b,0,none⟩) m m):=fun w hI=>by
 simp[execOp,Instr.sliceAt,Instr.sureAddr,hx,bH hu,bZ hi,Instr.sliceBounds,q5]
end
theorem N4 {n:Nat} (h:n<18446744073709551616):IntKind.u64.wrap (n:Int)=(n:Int):=by simp[IntKind.wrap,IntKind.bits,IntKind.signed];omega
end Go.Lx

namespace Go.Proofs.YtgdbfideeeegmaaGreatDoor
open Go.Lx Go.RowKit _root_.Go.Proofs.Tryz
theorem Wo (w:World) [dB Tryz.prog w] (a:Int):
  cA Tryz.prog 240 [vI a] w fun v N=>v=.bool false∧N=[]:=by
 refine aG func240 F ntmps240 F ?_
 refine ai (aj F (ae (ai (ah F (ah F (ad (bT (dP F F) (v':=.bool false) (by simp)) (aj F (ae (aN (az ?_))))))))))
 refine aT (.bool false) Tryz.results240 F ?_
 exact⟨[],Sub.z,F,F⟩
theorem gtC (w:World) [dB Tryz.prog w] (a b:Int) (h:b<a):
  cA Tryz.prog 213 [vI a,vI b] w fun v N=>v=vI 1∧N=[]:=by
 refine aG func213 F ntmps213 F ?_
 refine ai (aj F (ae (ai (ah F (ao F (bm KG (aX fun w1 hI=>(haveI:=ey hI;Wo w1 a)) F ?_))))))
 rintro vr O' ⟨N,rfl,rfl,rfl⟩
 refine aj F (ae (ai (ah F (ao F (bm KG (aX fun w1 hI=>(haveI:=ey hI;Wo w1 b)) F ?_)))))
 rintro vr O' ⟨N,rfl,rfl,rfl⟩
 refine aj F (ae (aO (ai (ah F (ae (a_ F (aE (aO (ai (ah F (ae ?_)))))))))))
 refine a_ F (aE (aO (ai (ah F (ah F (ad (aA (cR F F) (ak (by omega))) (ae (a_ F (aE (aO (ai (ah F (ah F (ad (aA (gH F F) (av (by omega))) (ae ?_)))))))))))))))
 refine bW F ?_
 refine ai (aj F (ae (aN (az ?_))))
 refine aT (vI 1) Tryz.results213 F ?_
 exact⟨[],Sub.z,F,F⟩
theorem Wp (w:World) [dB Tryz.prog w] (a1 a2:Int) (ba:Option Addr) (ca:Nat) (ha:Sl w ba [vI a1,vI a2]) (b1 b2:Int) (bb:Option Addr) (cb:Nat) (hb:Sl w bb [vI b1,vI b2]) (h:b1<a1):
  cA Tryz.prog 165 [.slice ba 2 ca,.slice bb 2 cb] w fun v N=>v=vI 1∧N=[]:=by
 refine aG func165 F ntmps165 F ?_
 refine ai (aj F (ae (aO (ai (ah F (ad (cP cI F) (ah F (ae (aU ?_)))))))))
 refine et (fun(k:Nat) ρ O=>O=[]∧k=0∧dt [(0,(.slice ba 2 ca)),(1,(.slice bb 2 cb)),(9,(.slice ba 2 ca)),(10,vI (2:Int)),(11,vN k)] ρ) (fun k=>2-k) 0 ?_ ?_
 ·exact⟨F,F,(.of F)⟩
 rintro k ρ O ⟨rfl,hk,hH⟩
 obtain⟨gP,rfl⟩:=hH.elim
 clear hH
 refine ai (ad (aA (cR F F) (av (by omega))) (ae (aO ?_)))
 refine bW F ?_
 refine aE (aO (aU (ai (ah F (ad (dZ (i:=k) cI bl F F (aJ ha) (by omega) (by simp;omega)) (ad (c_ dS F F (aJ ha) (by rw[hk];rfl)) (aj F (aj F (ae (aO (ai (ah F (ah F (ad (cP cI F) (ad (aA (lR F F) (ak (by omega))) (ae (a_ F (aE (ai ?_)))))))))))))))))))
 refine ah F (ah F (ad (dZ (i:=k) cI bl F F (aJ hb) (by omega) (by simp;omega)) (ad (c_ dS F F (aJ hb) (by rw[hk];rfl)) (aj F (ae (ai (ah F (ah F (ao F (bm Sn (aX fun w1 hI=>(haveI:=ey hI;gtC w1 a1 b1 h)) F ?_))))))))))
 rintro vr O' ⟨N,rfl,rfl,rfl⟩
 refine aj F (ae (ai (ah F (ad (aA (dP F F) (av (by decide))) (ae ?_)))))
 refine bW F ?_
 refine ai (ah F (aj F (ae (aN (az ?_)))))
 refine aT (vI 1) Tryz.results165 F ?_
 exact⟨[],Sub.z,F,F⟩
theorem Wq (w:World) [dB Tryz.prog w] (p r:Ob) (h:r.1<p.1):
  cA Tryz.prog 164 [(.agg #[vN p.1,vN p.2]),(.agg #[vN r.1,vN r.2])] w fun v N=>v=vI 1∧N=[]:=by
 refine aG func164 F ntmps164 F ?_
 refine ai (ao F (dE (cs:=[vN p.1,vN p.2]) F F (fun z1=>?_)))
 refine ao F (dE (cs:=[vN r.1,vN r.2]) F F (fun z2=>?_))
 refine aj F (ae (aO ?_))
 refine fQ [(0,0),(1,0),(2,2),(3,2)] ?_
 refine au F (xF j3 bl F (by omega)) (au F (xF j3 bl F (by omega)) ?_)
 refine cu F F (bm Sp (aX fun w1 hI=>(haveI:=ey hI;Wp w1 (p.1:Int) (p.2:Int) _ 2 (hI.jZ (mG 1 F)) (r.1:Int) (r.2:Int) _ 2 (hI.jZ (mG 0 F)) (by omega))) F ?_)
 rintro vr O' ⟨N,rfl,rfl,rfl⟩
 refine cu F F (eO F F (cq F) ?_)
 refine cy ?_
 refine aN (az ?_)
 refine aT (vI 1) Tryz.results164 F ?_
 exact⟨[],Sub.z,F,F⟩
theorem Wr (w:World) [dB Tryz.prog w] (b:Option Addr) (c:Nat) (o:List Ob) (hS:Sl w b (fA o)) (ha:o.Pairwise fun p q=>p.1<q.1) (hl:o.length≤12):
  cA Tryz.prog 232 [.slice b o.length c,vI 0,vN o.length,(.func (.func 164) #[] #[])] w fun v N=>v=.tuple #[]∧N=[]:=by
 refine aG func232 F ntmps232 F ?_
 refine ai (ah F (ad (bT (dK F F (by omega)) (v':=vN 1) F) (aj F (ae (aU ?_)))))
 refine et (fun(i:Nat) ρ O=>O=[]∧1≤i∧dt [(0,(.slice b o.length c)),(1,vI 0),(2,vN o.length),(3,(.func (.func 164) #[] #[])),(8,vN i)] ρ) (fun i=>o.length-i) 1 ?_ ?_
 ·exact⟨F,a8 _,(.of F)⟩
 rintro i ρ O ⟨rfl,hi,hH⟩
 obtain⟨gP,rfl⟩:=hH.elim
 clear hH
 refine aO (ai (ah F (ah F (ad (cR F F) (ae (aP F (fun hc=>?_) (fun hc=>?_)))))))
 ·have pI:i<o.length:=by omega
  have Yh:i<o.length:=by omega
  refine aE (aO (aU (ai (ah F (aj F (ae (aU ?_)))))))
  refine et (fun(j:Nat) ρ O=>O=[]∧j=i∧dt [(0,(.slice b o.length c)),(1,vI 0),(2,vN o.length),(3,(.func (.func 164) #[] #[])),(8,vN i),(9,vN j)] ρ) (fun j=>j) i ?_ ?_
  ·exact⟨F,F,(.of F)⟩
  rintro j ρ O ⟨rfl,Fi,hH⟩
  obtain⟨gP,rfl⟩:=hH.elim
  clear hH
  have Yi:j<o.length:=by omega
  have Yj:o[j-1].1<o[j].1:=(List.pairwise_iff_getElem.1 ha) (j-1) j (by omega) (by omega) (by omega)
  refine aO (aO ?_)
  refine fQ [(0,0),(1,0),(2,0),(3,0),(4,0),(5,0),(6,0),(7,0),(8,0),(9,0),(10,0),(11,0),(12,0),(13,0),(14,2),(15,2),(16,2)] ?_
  refine au F (aK F) (au F (aK F) (au F (aA (gH F F) (av (by omega))) (au F (aK F) ?_)))
  refine bF F F F (aK F) ?_
  refine bF F F F (aK F) ?_
  refine bF F F F (aK F) ?_
  refine bF F F F (dU (i:=j) ju gM F F (aJ hS) (by omega) (by rw[jG];omega)) ?_
  refine bF F F F (eP (vs:=[vN ((o[j]'(by omega)).1),vN ((o[j]'(by omega)).2)]) j3 F gM F F (bw _) (aJ hS) (ni (show j<o.length by omega))) ?_
  refine bF F F F (aK F) ?_
  refine bF F F F (aK F) ?_
  refine bF F F F (bT (fL F F (by omega)) (v':=vN (j-1)) (ax (Value.int .i64) (by omega))) ?_
  refine bF F F F (dU (i:=(j-1)) ju gM F F (aJ hS) (by omega) (by rw[jG];omega)) ?_
  refine bF F F F (eP (vs:=[vN ((o[j-1]'(by omega)).1),vN ((o[j-1]'(by omega)).2)]) j3 F gM F F (bw _) (aJ hS) (ni (show j-1<o.length by omega))) ?_
  have JJ:=(eo (base:=w) (O:=[]) fun w1 hI=>haveI:=ey hI;cQ (first:=[]) (args:=[(.agg #[vN (o[j].1),vN (o[j].2)]),(.agg #[vN (o[j-1].1),vN (o[j-1].2)])]) (gv:=[]) Sq (Wq w1 _ _ Yj))
  refine sd F F F F (fh JJ F F ?_)
  clear JJ
  rintro vr O' ⟨N,rfl,rfl,rfl⟩
  refine sd F F F F (eO F F (aA (cR F F) (ak (by decide))) ?_)
  refine cu F F (eO F F (cg F F) ?_)
  refine cy ?_
  refine a_ F ?_
  refine cG ?_
  refine be (ah F (ad (dx (a:=i) (b:=1) F F (by omega)) (aj F (ae ?_))))
  exact⟨i+1,by omega,F,by omega,(.of F)⟩
 have xG: ¬i<o.length:=by omega
 refine cG ?_
 refine az ?_
 refine ru.zero Tryz.results232 ?_
 exact⟨[],Sub.z,F,F⟩
theorem Ws (w:World) [dB Tryz.prog w] (b:Option Addr) (c:Nat) (o:List Ob) (hS:Sl w b (fA o)) (ha:o.Pairwise fun p q=>p.1<q.1) (hl:o.length≤12) (lim:Int):
  cA Tryz.prog 212 [.slice b o.length c,vI 0,vN o.length,vI lim,(.func (.func 164) #[] #[])] w fun v N=>v=.tuple #[]∧N=[]:=by
 refine aG func212 F ntmps212 F ?_
 refine ai (aj F (ae (ai (aj F (ae (aU ?_))))))
 refine o9 1 (T.round ?_)
 refine aU (ai ?_)
 refine ah F (ah F (ad (bT (fL F F (by omega)) (v':=vN o.length) (ax (Value.int .i64) (by omega))) (aj F (ae (aO (ai (ah F (ad (aA (I7 F F) (av (by omega))) (ae ?_)))))))))
 refine bW F ?_
 refine ai (ah F (ah F (ah F (ah F (ao F (bm Sr (aX fun w1 hI=>(haveI:=ey hI;Wr w1 b c o (hI.sl hS) ha hl)) F ?_))))))
 rintro vr O' ⟨N,rfl,rfl,rfl⟩
 refine ae (aN (az ?_))
 refine ru.zero Tryz.results212 ?_
 exact⟨[],Sub.z,F,F⟩
theorem KH (w:World) [dB Tryz.prog w] (n:Nat) (hn:n<1000):cA Tryz.prog 159 [.int .u64 (n:Int)] w fun v N=>v=vI (Lib.bitLen n:Int)∧N=[]:=fun w1 M hI=>by
 have h:=Go.Proofs.Any.bits_Len (P:=Tryz.prog) (ρ:=Tryz.vm) {Tryz.AK with} (n:Int) w1 (by omega) (by omega)
 rw[Int.toNat_natCast]at h
 refine h.mono ?_
 rintro e w' ⟨rfl,rfl⟩
 exact⟨_,_,F,hI,F,F⟩
theorem Ss (w:World) [dB Tryz.prog w] (b:Option Addr) (c:Nat) (o:List Ob) (hS:Sl w b (fA o)) (ha:o.Pairwise fun p q=>p.1<q.1) (hl:o.length≤12):
  cA Tryz.prog 163 [.slice b o.length c,(.func (.func 164) #[] #[])] w fun v N=>v=.tuple #[]∧N=[]:=by
 refine aG func163 F ntmps163 F ?_
 refine ai (ah F (ad (cP ju F) (aj F (ae (be (ah F (ah F (ah F (ad (fS dS Px F (N4 (by omega))) (ao F (bm Su (aX fun w1 hI=>(haveI:=ey hI;KH w1 o.length (by omega))) F ?_)))))))))))
 rintro vr O' ⟨N,rfl,rfl,rfl⟩
 refine ah F (ao F (bm Sv (aX fun w1 hI=>(haveI:=ey hI;Ws w1 b c o (hI.sl hS) ha hl (Lib.bitLen o.length:Int))) F ?_))
 rintro vr O' ⟨N,rfl,rfl,rfl⟩
 refine ae (az ?_)
 refine ru.zero Tryz.results163 ?_
 exact⟨[],Sub.z,F,F⟩
theorem Sw (w:World) [dB Tryz.prog w] (b:Option Addr) (c:Nat) (o:List Ob) (hS:Sl w b (fA o)) (hl:o.length≤12) (x:Ob) (hx: ∀p∈o,p.1<x.1):
  cA Tryz.prog 211 [.slice b o.length c,(.agg #[vN x.1,vN x.2])] w fun v N=>v=vI (-1)∧N=[]:=by
 refine aG func211 F ntmps211 F ?_
 refine ai (ao F (dE (cs:=[vN x.1,vN x.2]) F F (fun nP=>?_)))
 refine aj F (ae (aO (ai (ah F (ad (cP ju F) (ah F (ae (aU ?_))))))))
 refine et (fun(i:Nat) ρ O=>O=[oI nP 173 [vN x.1,vN x.2]]∧i≤o.length∧dt [(0,(.slice b o.length c)),(1,(.agg #[vN x.1,vN x.2])),(3,(.pointer (aD nP))),(7,vI (o.length:Int)),(8,vN i)] ρ) (fun i=>o.length-i) 0 ?_ ?_
 ·exact⟨F,bs _,(.of F)⟩
 rintro i ρ O ⟨rfl,hi,hH⟩
 obtain⟨gP,rfl⟩:=hH.elim
 clear hH
 refine ai (ad (cR F F) (ae (aO (aP F (fun hc=>?_) (fun hc=>?_)))))
 ·have ki:i<o.length:=by omega
  have Yh:i<o.length:=by omega
  have wh:=hx _ (aL Yh)
  refine aE (aO (aU (ai (ah F (aj F (ae (aO ?_)))))))
  refine fQ [(0,0),(1,0),(2,0),(3,0),(4,0),(5,0)] ?_
  refine au F (ew 0 j3 F gM F F F) (au F (aK F) (au F (aK F) (au F (dU (i:=i) ju gM F F (aJ hS) Yh (by rw[jG];omega)) (au F (eP (vs:=[vN (o[i].1),vN (o[i].2)]) j3 F gM F F (bw _) (aJ hS) (ni Yh)) (au F (bT (HR j3 dS bl (by kernel_rfl) F F) (v':=.bool false) (ax Value.bool (ak (by omega)))) ?_)))))
  refine cy ?_
  refine a_ F (aE (be (ad (dx (a:=i) (b:=1) F F (by omega)) (ah F (ae ?_)))))
  exact⟨i+1,by omega,F,by omega,(.of F)⟩
 have JX: ¬i<o.length:=by omega
 refine cG ?_
 refine ai (aj F (ae (aN (az ?_))))
 refine aT (vI (-1)) Tryz.results211 F ?_
 exact⟨[],Sub.z,F,F⟩
theorem HS (w:World) [dB Tryz.prog w] (b:Option Addr) (c:Nat) (o:List Ob) (hS:Sl w b (fA o)) (hl:o.length≤12) (x:Ob) (hx: ∀p∈o,p.1<x.1):
  cA Tryz.prog 161 [.slice b o.length c,(.agg #[vN x.1,vN x.2])] w fun v N=>v=.bool false∧N=[]:=by
 refine aG func161 F ntmps161 F ?_
 refine ai (ao F (dE (cs:=[vN x.1,vN x.2]) F F (fun nP=>?_)))
 refine aj F (ae (ai (ah F (ad (ew 0 j3 F gM F F F) (ao F (bm Sx (aX fun w1 hI=>(haveI:=ey hI;Sw w1 b c o (hI.sl hS) hl x hx)) F ?_))))))
 rintro vr O' ⟨N,rfl,rfl,rfl⟩
 refine ad (bT (lR F F) (v':=.bool false) F) (aj F (ae (aN (az ?_))))
 refine aT (.bool false) Tryz.results161 F ?_
 exact⟨[],Sub.z,F,F⟩
theorem EB (o:List Ob):((fA o).all fu)=true:=by
 rw[fy]
 intro v hv
 obtain⟨p,_,hv⟩:=List.mem_flatMap.1 hv
 simp only[df,List.not_mem_nil,or_false]at hv
 rcases hv with rfl|rfl<;>rfl
theorem HT (w:World) [dB Tryz.prog w] (c:Nat):
  cA Tryz.prog 162 [.slice none 0 c] w fun v N=> ∃b' c',v=.slice b' 0 c'∧N=[aq b' c' 173 2 []]:=by
 refine aG func162 F ntmps162 F ?_
 refine ai (aj F (ae (aO (ai (ah F (ad (BH ju F F) (ae ?_)))))))
 refine bW F ?_
 refine aO (T.eY 173 2 ?_)
 refine be (aj F (ae (aN ?_)))
 refine aT nS Tryz.results162 F ?_
 exact⟨_,_,F,F⟩
theorem EC (w:World) [dB Tryz.prog w] (a:Addr) (c:Nat) (o:List Ob) (h1:Sl w (some a) (fA o)) (hb:o.length≤12):
  cA Tryz.prog 162 [.slice (some a) o.length c] w fun v N=> ∃b' c',v=.slice b' o.length c'∧N=[aq b' c' 173 2 (fA o)]:=by
 refine aG func162 F ntmps162 F ?_
 refine ai (aj F (ae (aO (ai (ah F (ad (BH ju F F) (ae (a_ F (aE (ai (ao F (cH (m:=0) (parts:=[]) (cs:=[]) ju gM (by decide) (by simp[Instr.fill]) F (fun b1=>?_)))))))))))))
 refine ah F (ao F (dh 0 ju ju gM F F F F (by simp) (by decide) (Src.sl h1 (by rw[jG])) (EB o) (by omega) (by decide) (by decide) (fun nP c2=>?_)))
 refine aj F (ae (aN ?_))
 refine aT (.slice nP (0+o.length) c2) Tryz.results162 F ?_
 exact⟨_,_,by rw[Nat.zero_add],F⟩
theorem KI (w:World) [dB Tryz.prog w] (b:Option Addr) (c:Nat) (o:List Ob) (h1:Sl w b (fA o)) (hb:o.length≤12):
  cA Tryz.prog 162 [.slice b o.length c] w fun v N=> ∃b' c',v=.slice b' o.length c'∧N=[aq b' c' 173 2 (fA o)]:=by
 cases b with
 |none=>
  have hx:o=[]:=by
   cases o with
   |nil=>rfl
   |cons x xs=>obtain⟨_,_,e⟩:=h1.addr (i:=0) (by simp[fA]);cases e
  subst hx
  exact HT w c
 |some a=>exact EC w a c o h1 hb
end Go.Proofs.YtgdbfideeeegmaaGreatDoor

namespace Go.Proofs.YtgdbfideeeegmaaGreatDoor
open Go.Lx Go.RowKit _root_.Go.Proofs.Tryz
theorem qF {ls:List Lf} {ks:List LK} {k:Nat} (hk:ks.length=ls.length) (h:k<ls.length) (j:Nat) {v:Value} (hv:(kz (lf ls k) (lk ks k))[j]? =some v) {n:Nat} (hn:n=k*7+j):(dj ls ks)[n]? =some v:=by
 obtain⟨hj,rfl⟩:=List.getElem?_eq_some_iff.1 hv
 subst hn
 exact xH hk h j hj
theorem Wu (w:World) [dB Tryz.prog w] (ob:Nat) (lb:Option Addr) (lc:Nat) (cv fv:Value) (ls:List Lf) (ks:List LK) (ho:kU w ob lb lc cv fv ls ks) (vs:Nat) (hG:ji ls vs) (r:OB) (hr:Sl w r.b (fA r.o)) (x:Ob) (m:Nat) (HH:fO ls m r.o) (hm:m≤x.1) (hk:x.1<ls.length) (hs:x.2<(lf ls x.1).d.next.length):
  cA Tryz.prog 113 [(d_ (aD ob) 0),.slice r.b r.o.length r.c,(.agg #[vN x.1,vN x.2])] w fun v N=> ∃pl r2,v=OB.val r2∧N=fZ 173 pl∧r2.o=tA ls r.o x∧((pl=[]∧r2=r)∨pl=[r2]):=by
 refine aG func113 F ntmps113 F ?_
 have hv:=hG.j4 hk
 have iM:=hG.len
 have Sj:=HH.len
 refine ai (ao F (dE (cs:=[vN x.1,vN x.2]) F F (fun z1=>?_)))
 refine aj F (ae (aO (aO ?_)))
 refine fQ [(0,0),(1,0),(2,0),(3,0),(4,0),(5,0),(6,0),(7,0),(8,0),(9,0),(10,0),(11,0),(12,0),(13,0),(14,0),(15,0),(16,0),(17,2),(18,2)] ?_
 refine au F (aK F) (au F (bf F) (au F (ck gw F gy F F (aJ ho.bx) (by first|omega|(simp;done)|(simp;omega)|(simp_all;done)|(simp_all;omega))) (au F (c_ fx F F (aJ ho.bx) F) (au F (js (i:=0) j3 bl F F (by decide)) (au F (bn 0 dS F F F F) (au F (dU (i:=x.1) fx eZ F F (aJ ho.rw) hk (by rw[dY ho.kl];omega)) (au F (ck iw F bK F F (aJ ho.rw) (by rw[dY ho.kl];omega)) (au F (ck cS F dy F F (aJ ho.rw) (by rw[dY ho.kl];show x.1*7+1<_;omega)) (au F (c_ eu F F (aJ ho.rw) (qF ho.kl hk 4 F F)) (au F (js (i:=1) j3 bl F F (by decide)) (au F (bn 0 dS F F F F) (au F (dZ (i:=x.2) eu fw F F (aJ (ho.dk _ hk).aV) (by rw[hv.fin];exact hs) (by rw[ar,hv.fin];exact hs)) (au F (c_ Bh F F (aJ (ho.dk _ hk).aV) (oV hv hs)) ?_)))))))))))))
 by_cases mf:dD (lf ls x.1).d x.2=true
 ·refine au F (aA (aK F) (mf)) ?_
  refine bN F F F (bN F F F ?_)
  refine Am (by decide) F F F F F ?_
  refine cu F F (eO F F (cg F F) ?_)
  refine cy ?_
  refine bW F ?_
  refine ai (ah F (aj F (ae (aN (az ?_)))))
  refine aT (.slice r.b r.o.length r.c) Tryz.results113 F ?_
  have e9:tA ls r.o x=r.o:=aR mf
  exact⟨[],Sub.z,[],r,by first|rfl|(rw[e9];rfl),F,e9.symm,.inl ⟨F,F⟩⟩
 refine au F (aA (aK F) (Bool.eq_false_iff.2 mf)) ?_
 refine bF F F F (aK F) ?_
 refine bF F F F (ew 0 j3 F gM F F F) ?_
 have qy:=fun(w1:World) (hI:Inv w [oI z1 173 [vN x.1,vN x.2]] w1)=>(haveI:=ey hI;HS w1 r.b r.c r.o (hI.sl hr) (by omega) x (fun p hp=>eA (HH.2 p hp).1 hm))
 refine sd F F F F (bm Sy (aX qy) F ?_)
 clear qy
 rintro vr O' ⟨N,rfl,rfl,rfl⟩
 refine cu F F (eO F F (b_ F F) ?_)
 refine cy ?_
 refine a_ F (aE ?_)
 refine gh (fun ρ O=> ∃(ab:Option Addr) (ac zb:Nat),O=[aq ab ac 173 2 ((fA r.o)++[vN x.1,vN x.2]),aq (aD zb) 1 173 2 [vN x.1,vN x.2],oI z1 173 [vN x.1,vN x.2]]∧dt [(0,(d_ (aD ob) 0)),(1,(.slice r.b r.o.length r.c)),(2,(.agg #[vN x.1,vN x.2])),(5,(.pointer (aD z1))),(6,nS),(7,(.slice ab (r.o.length+1) ac))] ρ) ?_ ?_
 ·refine n5 [oI z1 173 [vN x.1,vN x.2]] 6 mixed F (by exact Sub.rf) (fun _ _ _ _ h=>h) ?_
  refine cB 0 F (by kernel_rfl) (aK F) ?_
  refine cB 2 F (by kernel_rfl) (ew 0 j3 F gM F F F) ?_
  have tg:=fun(w1:World) (hI:Inv w [oI z1 173 [vN x.1,vN x.2]] w1)=>(haveI:=ey hI;KI w1 r.b r.c r.o (hI.sl hr) (by omega))
  refine bg [1,3] (by kernel_rfl) F ⟨⟨_,F,F,bm KJ (aX tg) F ?_⟩,⟨_,F,F,cH (m:=1) (parts:=[(0,_)]) (cs:=[vN x.1,vN x.2]) ju gM (by decide) (by kernel_rfl) F (fun zb=>⟨by exact Sub.d (.k .z),?_⟩)⟩,trivial⟩
  ·clear tg
   rintro vr O' ⟨N,rfl,nb,nc,rfl,rfl⟩
   refine⟨by exact Sub.d (.k .z),?_⟩
   refine bg [3] (by kernel_rfl) F ⟨⟨_,F,F,cH (m:=1) (parts:=[(0,_)]) (cs:=[vN x.1,vN x.2]) ju gM (by decide) (by kernel_rfl) F (fun zb=>⟨by exact Sub.d (.d (.k .z)),?_⟩)⟩,trivial⟩
   refine bg [4] (by kernel_rfl) F ⟨⟨_,F,F,dh 1 ju ju gM F F F F (by rw[jG]) (by decide) (Src.row (j:=0) F (by simp)) (by simp[fu]) (by omega) (by decide) (by decide) (fun ab ac=>⟨by exact Sub.d (.d (.k .z)),?_⟩)⟩,trivial⟩
   refine cB 5 F (by kernel_rfl) (cq F) ?_
   exact dw (by kernel_rfl) ⟨ab,ac,zb,F,(.of F)⟩ (by exact Sub.eQ [aq (aD zb) 1 173 2 [vN x.1,vN x.2]] _ (.k (.k .z)))
  have tg:=fun(w1:World) (hI:Inv w [aq (aD zb) 1 173 2 [vN x.1,vN x.2],oI z1 173 [vN x.1,vN x.2]] w1)=>(haveI:=ey hI;KI w1 r.b r.c r.o (hI.sl hr) (by omega))
  refine bg [1] (by kernel_rfl) F ⟨⟨_,F,F,bm KJ (aX tg) F ?_⟩,trivial⟩
  clear tg
  rintro vr O' ⟨N,rfl,nb,nc,rfl,rfl⟩
  refine⟨by exact Sub.d (.d (.k .z)),?_⟩
  refine bg [4] (by kernel_rfl) F ⟨⟨_,F,F,dh 0 ju ju gM F F F F (by rw[jG]) (by decide) (Src.row (j:=1) F (by simp)) (by simp[fu]) (by omega) (by decide) (by decide) (fun ab ac=>⟨by exact Sub.d (.d (.k .z)),?_⟩)⟩,trivial⟩
  refine cB 5 F (by kernel_rfl) (cq F) ?_
  exact dw (by kernel_rfl) ⟨ab,ac,zb,F,(.of F)⟩ (by exact Sub.rf)
 rintro ρ O ⟨ab,ac,zb,rfl,hH⟩
 obtain⟨gP,rfl⟩:=hH.elim
 clear hH
 refine ai (ah F ?_)
 have Jz:=fun(w1:World) (hI:Inv w [aq ab ac 173 2 ((fA r.o)++[vN x.1,vN x.2]),aq (aD zb) 1 173 2 [vN x.1,vN x.2],oI z1 173 [vN x.1,vN x.2]] w1)=>(haveI:=ey hI;(show cA _ _ _ _ (fun v N=>v=Value.tuple #[]∧N=[])from by
   have h9:=Ss w1 ab ac (r.o++[x]) (by rw[vn];exact hI.gW (mG 0 F)) (List.pairwise_append.2 ⟨HH.1,List.pairwise_singleton _ _,fun p hp q hq=>by rw[List.mem_singleton.1 hq];exact eA (HH.2 p hp).1 hm⟩) (by rw[aF];simp;omega)
   rw[aF]at h9
   exact h9))
 refine ao F (bm Sz (aX Jz) F ?_)
 clear Jz
 rintro vr O' ⟨N,rfl,rfl,rfl⟩
 refine ae (ai (ah F (aj F (ae (aN (az ?_))))))
 refine aT (.slice ab (r.o.length+1) ac) Tryz.results113 F ?_
 have e9:tA ls r.o x=r.o++[x]:=ay mf
 exact⟨[aq ab ac 173 2 ((fA r.o)++[vN x.1,vN x.2])],(by exact Sub.k .z),[⟨ab,ac,r.o++[x]⟩],⟨ab,ac,r.o++[x]⟩,by show _=Value.slice _ (r.o++[x]).length _;rw[aF];rfl,by show[_]=[aq _ _ _ _ (fA (r.o++[x]))];rw[vn],e9.symm,.inr F⟩
end Go.Proofs.YtgdbfideeeegmaaGreatDoor

namespace Go.Proofs.YtgdbfideeeegmaaGreatDoor
open Go.Lx Go.RowKit _root_.Go.Proofs.Tryz
def qG (base:World) (f:FuncId) (args:List Value) (zs:Nat) (bb:Option Addr) (bc l_:Nat) (bh:List Nat) (ls:List Lf) (r:OB) (E:List Cf):Prop:= ∀(cb:Option Addr) (cc:Nat) (l:List CR) (p:List OB),ld ls l p→lZ p r→
 cd Tryz.prog base f args ([dR zs (.cells (List.toArray [(.slice bb bh.length bc),(.slice cb l.length cc)]) 122 (0,0)),aq cb cc 169 3 (du l),aq bb l_ 3 1 (bU bh)]++fZ 173 p) (fun v O'=> ∃uv uw l' p',v=.tuple #[]∧O'=[dR zs (.cells (List.toArray [(.slice bb bh.length bc),(.slice uv l'.length uw)]) 122 (0,0)),aq uv uw 169 3 (du l'),aq bb l_ 3 1 (bU bh)]++fZ 173 p'∧l'.map CR.cf=E.foldl add (l.map CR.cf)∧ld ls l' p'∧(∀x∈p,x∈p'))
theorem SA (base:World) [dB Tryz.prog base] {ls:List Lf} {vs:Nat} (hG:ji ls vs) {K:Nat} (hK:qu ls K) (xI:K<1099511627776) (ov:Value) (zs:Nat) (bb:Option Addr) (bc:Nat) (bh:List Nat) (B:List Lx.Item) (cb:Option Addr) (cc:Nat) (l:List CR) (p:List OB) (x:CR) (hS:ld ls l p) (hx:jv ls x.cf) (Mu:lZ p x.r) {O:List Lx.Item} (hs:Sub ([dR zs (.cells (List.toArray [(.slice bb bh.length bc),(.slice cb l.length cc)]) 122 (0,0)),aq cb cc 169 3 (du l)]++B) O):
  cd Tryz.prog base 114 [ov,.pointer (aD zs),(.agg #[vI x.k,vI ((x.s:Nat):Int),(.slice x.r.b x.r.o.length x.r.c)])] (O++fZ 173 p) (fun v O'=> ∃uv uw l',v=.tuple #[]∧O'=([dR zs (.cells (List.toArray [(.slice bb bh.length bc),(.slice uv l'.length uw)]) 122 (0,0)),aq uv uw 169 3 (du l')]++B)++fZ 173 p∧l'.map CR.cf=[x.cf].foldl add (l.map CR.cf)∧ld ls l' p):=by
 have h:=ZL base hG ov zs (.slice bb bh.length bc) cb cc l p x hS.N5 hS.KK hx Mu (jz (hS.len hK) xI)
 refine((h.under (B:=B) (qH _ _ _ _ hs))).post ?_
 rintro v O' ⟨A',rfl,uv,uw,rfl,rfl⟩
 exact⟨_,qI _ _ _,uv,uw,yM l x,F,F,FX l x,hS.add hx Mu⟩
theorem SB (base:World) [dB Tryz.prog base] (ob:Nat) (lb:Option Addr) (lc:Nat) (cv fv:Value) (ls:List Lf) (ks:List LK) (ho:kU base ob lb lc cv fv ls ks) (vs:Nat) (hG:ji ls vs) {K:Nat} (hK:qu ls K) (xI:K<1099511627776) (zs:Nat) (bb:Option Addr) (bc l_:Nat) (bh:List Nat) (hb:pJ ls bh) (k:Nat) (hk:k<ls.length) (r:OB) (we:fO ls ls.length r.o) (f:Nat) (hE: ∀j∈(lf ls k).fo,qG base 109 [(d_ (aD ob) 0),(.pointer (aD zs)),vI ((j:Nat):Int),(.slice r.b r.o.length r.c)] zs bb bc l_ bh ls r (gz ls f bh j r.o)) (cb:Option Addr) (cc:Nat) (l:List CR) (p:List OB) (hS:ld ls l p) (DD:lZ p r):
  cd Tryz.prog base 115 [(d_ (aD ob) 0),(.pointer (aD zs)),vI ((k:Nat):Int),(.slice r.b r.o.length r.c)] ([oI zs 122 [(.slice bb bh.length bc),(.slice cb l.length cc)],aq cb cc 169 3 (du l),aq bb l_ 3 1 (bU bh)]++fZ 173 p) (fun v O'=> ∃uv uw l' p',v=.tuple #[]∧O'=[oI zs 122 [(.slice bb bh.length bc),(.slice uv l'.length uw)],aq uv uw 169 3 (du l'),aq bb l_ 3 1 (bU bh)]++fZ 173 p'∧l'.map CR.cf=(gX ls (f+1) bh k r.o).foldl add (l.map CR.cf)∧ld ls l' p'∧(∀x∈p,x∈p')):=by
 refine aG func115 F ntmps115 F ?_
 have Iy:=hG.fol _ (ko hk)
 refine aO (ai (ah F (ad (bf F) (ad (ck gw F gy F F (aJ ho.bx) (by first|omega|(simp;done)|(simp;omega)|(simp_all;done)|(simp_all;omega))) (ad (c_ fx F F (aJ ho.bx) F) (ah F (ad (dU (i:=k) fx eZ F F (aJ ho.rw) hk (by rw[dY ho.kl];omega)) (ad (ck iw F cU F F (aJ ho.rw) (by rw[dY ho.kl];omega)) (ad (c_ cI F F (aJ ho.rw) (qF ho.kl hk 5 F F)) (ad (cP cI F) (ah F (ae (aU ?_)))))))))))))
 let eJ:Lx.Item:=aq bb l_ 3 1 (bU bh)
 refine dM (fun(i:Nat) ρ O=> ∃(P4:Option Addr) (P5:Nat) (l2:List CR) (p2:List OB),O=([oI zs 122 [(.slice bb bh.length bc),(.slice P4 l2.length P5)],aq P4 P5 169 3 (du l2),eJ]++(fZ 173 p2))∧i≤(lf ls k).fo.length∧l2.map CR.cf=(((lf ls k).fo.take i).flatMap fun j=>gz ls f bh j r.o).foldl add (l.map CR.cf)∧ld ls l2 p2∧(∀x∈p,x∈p2)∧dt [(0,(d_ (aD ob) 0)),(1,(.pointer (aD zs))),(2,vI ((k:Nat):Int)),(3,(.slice r.b r.o.length r.c)),(17,(.slice (lk ks k).b ((lf ls k).fo.length) ((lk ks k).c))),(18,vI ((lf ls k).fo.length:Int)),(19,vI ((i:Nat):Int))] ρ) (fun i=>(lf ls k).fo.length-i) 0 ?_ ?_
 ·exact⟨cb,cc,l,p,F,bs _,F,hS,fun x hx=>hx,(.of F)⟩
 rintro i ρ O ⟨P4,P5,l2,p2,rfl,hi,Bu,UH,zi,hH⟩
 obtain⟨gP,rfl⟩:=hH.elim
 clear hH
 refine ai (ad (cR F F) (ae (aO (aP F (fun hc=>?_) (fun hc=>?_)))))
 ·have zG:i<(lf ls k).fo.length:=by omega
  refine aE (aO (aU (ai (ad (dZ (i:=i) cI bl F F (aJ (ho.fo _ hk)) zG (by rw[ar];exact zG)) (ad (c_ dS F F (aJ (ho.fo _ hk)) (ij zG)) (aj F (ae (be (ah F (ah F (ah F (ah F ?_))))))))))))
  have ta:=hE (lf ls k).fo[i] (aL zG) P4 P5 l2 p2 UH (DD.mono zi)
  refine ao F (bm KL ta F ?_)
  clear ta
  rintro vr O' ⟨N6,N7,l3,p3,rfl,rfl,N8,Iz,Dz⟩
  refine ae (be (ad (dx (a:=i) (b:=1) F F (by omega)) (ah F (ae ?_))))
  exact⟨i+1,by omega,_,cj (aZ _),N6,N7,l3,p3,F,by omega,by rw[aH zG,List.flatMap_append,cY,←Bu,N8];simp,Iz,fun x hx=>Dz x (zi x hx),(.of F)⟩
 have Wv: ¬i<(lf ls k).fo.length:=by omega
 refine cG ?_
 refine ai (ah F (ad (bf F) (ad (ck gw F gy F F (aJ ho.bx) (by first|omega|(simp;done)|(simp;omega)|(simp_all;done)|(simp_all;omega))) (ad (c_ fx F F (aJ ho.bx) F) (ah F (ad (dU (i:=k) fx eZ F F (aJ ho.rw) hk (by rw[dY ho.kl];omega)) (ad (ck iw F fw F F (aJ ho.rw) (by rw[dY ho.kl];omega)) (ad (c_ Bh F F (aJ ho.rw) (qF ho.kl hk 6 F F)) (ae (T.cond F (fun hc=>?_) (fun hc=>?_)))))))))))
 ·have Jk:(lf ls k).la=true:=hc
  refine be (ah F (ah F (ah F (ad (cF (cs:=[vI (-1),vI 0,(.slice r.b r.o.length r.c)]) AL jk (by kernel_rfl)) ?_))))
  have Kw:=SA base hG hK xI (d_ (aD ob) 0) zs bb bc bh [eJ] P4 P5 l2 p2 ⟨-1,0,r⟩ UH (.inl ⟨F,F,we⟩) (DD.mono zi) (O:=[oI zs 122 [(.slice bb bh.length bc),(.slice P4 l2.length P5)],aq P4 P5 169 3 (du l2),eJ]) (by exact Sub.rf)
  refine ao F (bm ED Kw F ?_)
  clear Kw
  rintro vr O' ⟨CF,CG,l4,rfl,rfl,SC,SD⟩
  refine ae (az ?_)
  refine ru.zero Tryz.results115 ?_
  have wj:i=(lf ls k).fo.length:=by omega
  subst wj
  rw[List.take_length]at Bu
  have e9:gX ls (f+1) bh k r.o=((lf ls k).fo.flatMap fun j=>gz ls f bh j r.o)++[⟨-1,0,r.o⟩]:=by unfold gX;rw[aR Jk]
  exact⟨_,cj (aZ _),CF,CG,l4,p2,F,F,by rw[e9,cY,←Bu,SC];rfl,SD,zi⟩
 have Jk: ¬(lf ls k).la=true:=by rw[hc];simp
 refine aE (az ?_)
 refine ru.zero Tryz.results115 ?_
 have wj:i=(lf ls k).fo.length:=by omega
 subst wj
 rw[List.take_length]at Bu
 have e9:gX ls (f+1) bh k r.o=((lf ls k).fo.flatMap fun j=>gz ls f bh j r.o)++[]:=by unfold gX;rw[ay Jk]
 exact⟨_,cj (aZ _),P4,P5,l2,p2,F,F,by rw[e9,cT,Bu],UH,zi⟩
def FY (l:Lf) (q:LK):List Value:=[v8 l.op,vI l.d.vars,vI ((l.d.start.toNat:Nat):Int),.slice q.k.nb l.d.next.length q.k.nc,.slice q.k.fb l.d.aV.length q.k.fc,.slice q.b l.fo.length q.c,.bool l.la]
theorem oB {ls:List Lf} {ks:List LK} {k:Nat} (hk:ks.length=ls.length) (h:k<ls.length) (h0:0≤(lf ls k).d.start): ∀j (hj:j<(FY (lf ls k) (lk ks k)).length),(dj ls ks)[k*7+j]? =some (FY (lf ls k) (lk ks k))[j]:=fun j hj=>by
 have e:FY (lf ls k) (lk ks k)=kz (lf ls k) (lk ks k):=by unfold FY;rw[dn h0];rfl
 simp only[e]at hj⊢
 exact xH hk h j hj
theorem lH {l:List Nat} {i:Nat} (h:i<l.length):(bU l)[i]? =some (vI ((l.getD i 0:Nat):Int)):=by
 rw[ij h,aw,ap h];rfl
theorem SE (base:World) [dB Tryz.prog base] (ob:Nat) (lb:Option Addr) (lc:Nat) (cv fv:Value) (ls:List Lf) (ks:List LK) (ho:kU base ob lb lc cv fv ls ks) (vs:Nat) (hG:ji ls vs) {K:Nat} (hK:qu ls K) (xI:K<1099511627776) (zs:Nat) (bb:Option Addr) (bc l_:Nat) (bh:List Nat) (hb:pJ ls bh) (k:Nat) (hk:k<ls.length) (KM:(lf ls k).op=9) (r:OB) (we:fO ls k r.o) (f:Nat) (hL: ∀r2:OB,fO ls (k+1) r2.o→qG base 115 [(d_ (aD ob) 0),(.pointer (aD zs)),vI ((k:Nat):Int),(.slice r2.b r2.o.length r2.c)] zs bb bc l_ bh ls r2 (gX ls f bh k r2.o)) (cb:Option Addr) (cc:Nat) (l:List CR) (p:List OB) (hS:ld ls l p) (DD:lZ p r):
  cd Tryz.prog base 109 [(d_ (aD ob) 0),(.pointer (aD zs)),vI ((k:Nat):Int),(.slice r.b r.o.length r.c)] ([oI zs 122 [(.slice bb bh.length bc),(.slice cb l.length cc)],aq cb cc 169 3 (du l),aq bb l_ 3 1 (bU bh)]++fZ 173 p) (fun v O'=> ∃uv uw l' p',v=.tuple #[]∧O'=[oI zs 122 [(.slice bb bh.length bc),(.slice uv l'.length uw)],aq uv uw 169 3 (du l'),aq bb l_ 3 1 (bU bh)]++fZ 173 p'∧l'.map CR.cf=(gz ls (f+1) bh k r.o).foldl add (l.map CR.cf)∧ld ls l' p'∧(∀x∈p,x∈p')):=by
 refine aG func109 F ntmps109 F ?_
 have hv:=hG.j4 hk
 have Ae:=ez hv.toVal
 have P6:k<bh.length:=by rw[hb.len];exact hk
 have Ww:=hb.lt k hk
 have N_:fO ls (k+1) r.o:=we.mono (Nat.le_succ k)
 refine ai (ah F (ad (bf F) (ad (ck gw F gy F F (aJ ho.bx) (by first|omega|(simp;done)|(simp;omega)|(simp_all;done)|(simp_all;omega))) (ad (c_ fx F F (aJ ho.bx) F) (ah F (ad (dU (i:=k) fx eZ F F (aJ ho.rw) hk (by rw[dY ho.kl];omega)) (ad (eP (vs:=[v8 ((lf ls k).op),vI (lf ls k).d.vars,vI (((lf ls k).d.start.toNat:Nat):Int),(.slice (lk ks k).k.nb ((lf ls k).d.next.length) ((lk ks k).k.nc)),(.slice (lk ks k).k.fb ((lf ls k).d.aV.length) ((lk ks k).k.fc)),(.slice (lk ks k).b ((lf ls k).fo.length) ((lk ks k).c)),.bool (lf ls k).la]) iw F eZ F F (bw _) (aJ ho.rw) (oB ho.kl hk hv.s0)) (ao F (bu eZ F (fun z1=>?_))))))))))
 refine ao F (bV (vs:=[v8 ((lf ls k).op),vI (lf ls k).d.vars,vI (((lf ls k).d.start.toNat:Nat):Int),(.slice (lk ks k).k.nb ((lf ls k).d.next.length) ((lk ks k).k.nc)),(.slice (lk ks k).k.fb ((lf ls k).d.aV.length) ((lk ks k).k.fc)),(.slice (lk ks k).b ((lf ls k).fo.length) ((lk ks k).c)),.bool (lf ls k).la]) 0 eZ F F F F ?_)
 refine ae (aU (ai (ad (bj iw F dF F F) (ad (bn 0 fF F F F F) (ad (aA (bM F F) (av (by omega))) (aj F (ae ?_)))))))
 refine bW F ?_
 refine be (ah F (ah F (ah F (ah F (ah F (ah F (ad (bj iw F bK F F) (ad (bj cS F bl F F) (ad (bn 0 dS F F F F) (ad (sW (cs:=[vI ((k:Nat):Int),vI (((lf ls k).d.start.toNat:Nat):Int)]) j3 bl gM (by kernel_rfl)) ?_))))))))))
 have xz:=fun(w1:World) (hI:Inv base ([oI z1 118 [v8 ((lf ls k).op),vI (lf ls k).d.vars,vI (((lf ls k).d.start.toNat:Nat):Int),(.slice (lk ks k).k.nb ((lf ls k).d.next.length) ((lk ks k).k.nc)),(.slice (lk ks k).k.fb ((lf ls k).d.aV.length) ((lk ks k).k.fc)),(.slice (lk ks k).b ((lf ls k).fo.length) ((lk ks k).c)),.bool (lf ls k).la],oI zs 122 [(.slice bb bh.length bc),(.slice cb l.length cc)],aq cb cc 169 3 (du l),aq bb l_ 3 1 (bU bh)]++(fZ 173 p)) w1)=>(haveI:=ey hI;Wu w1 ob lb lc cv fv ls ks (hI.out ho) vs hG r (lZ.sl hI (fun it fC=>am _ fC) DD) (k,(lf ls k).d.start.toNat) k we (a8 _) hk Ae)
 refine ao F (bm KN (aX xz) F ?_)
 clear xz
 rintro vr O' ⟨N,rfl,pl,r2,rfl,rfl,KO,CH⟩
 have hg2:fO ls (k+1) r2.o:=by rw[KO];exact ux (x:=(k,_)) we (a8 _) Ae
 have ZM:lZ (pl++p) r2:=by
  rcases CH with⟨rfl,rfl⟩|rfl
  ·exact DD.mono fun x hx=>by simpa using hx
  ·exact .inl (by simp)
 refine ef (O':=([oI z1 118 [v8 ((lf ls k).op),vI (lf ls k).d.vars,vI (((lf ls k).d.start.toNat:Nat):Int),(.slice (lk ks k).k.nb ((lf ls k).d.next.length) ((lk ks k).k.nc)),(.slice (lk ks k).k.fb ((lf ls k).d.aV.length) ((lk ks k).k.fc)),(.slice (lk ks k).b ((lf ls k).fo.length) ((lk ks k).c)),.bool (lf ls k).la],oI zs 122 [(.slice bb bh.length bc),(.slice cb l.length cc)],aq cb cc 169 3 (du l),aq bb l_ 3 1 (bU bh)]++((fZ 173 pl)++(fZ 173 p)))) (by exact fE [] _ (fZ 173 pl) (fZ 173 p)) ?_
 have Wx:=cd.sub (O':=[oI zs 122 [(.slice bb bh.length bc),(.slice cb l.length cc)],aq cb cc 169 3 (du l),aq bb l_ 3 1 (bU bh)]++fZ 173 (pl++p)) (O:=([oI z1 118 [v8 ((lf ls k).op),vI (lf ls k).d.vars,vI (((lf ls k).d.start.toNat:Nat):Int),(.slice (lk ks k).k.nb ((lf ls k).d.next.length) ((lk ks k).k.nc)),(.slice (lk ks k).k.fb ((lf ls k).d.aV.length) ((lk ks k).k.fc)),(.slice (lk ks k).b ((lf ls k).fo.length) ((lk ks k).c)),.bool (lf ls k).la],oI zs 122 [(.slice bb bh.length bc),(.slice cb l.length cc)],aq cb cc 169 3 (du l),aq bb l_ 3 1 (bU bh)]++((fZ 173 pl)++(fZ 173 p)))) (by rw[CI];exact(by exact Sub.d (.k (.k (.k .rf))))) (hL r2 hg2 cb cc l (pl++p) (hS.mono fun x hx=>am _ hx) ZM)
 refine ao F (bm AM Wx F ?_)
 clear Wx
 rintro vr O' ⟨N6,N7,l3,p3,rfl,rfl,N8,Iz,Dz⟩
 refine ae (az ?_)
 refine ru.zero Tryz.results109 ?_
 exact⟨_,cj (aZ _),N6,N7,l3,p3,F,F,by rw[N8,KO];unfold gz;rw[aR KM],Iz,fun x hx=>Dz x (am _ hx)⟩
theorem SF (base:World) [dB Tryz.prog base] (ob:Nat) (lb:Option Addr) (lc:Nat) (cv fv:Value) (ls:List Lf) (ks:List LK) (ho:kU base ob lb lc cv fv ls ks) (vs:Nat) (hG:ji ls vs) {K:Nat} (hK:qu ls K) (xI:K<1099511627776) (zs:Nat) (bb:Option Addr) (bc l_:Nat) (bh:List Nat) (hb:pJ ls bh) (k:Nat) (hk:k<ls.length) (KM:(lf ls k).op=10) (r:OB) (we:fO ls k r.o) (f:Nat) (hL: ∀r2:OB,fO ls (k+1) r2.o→qG base 115 [(d_ (aD ob) 0),(.pointer (aD zs)),vI ((k:Nat):Int),(.slice r2.b r2.o.length r2.c)] zs bb bc l_ bh ls r2 (gX ls f bh k r2.o)) (cb:Option Addr) (cc:Nat) (l:List CR) (p:List OB) (hS:ld ls l p) (DD:lZ p r):
  cd Tryz.prog base 109 [(d_ (aD ob) 0),(.pointer (aD zs)),vI ((k:Nat):Int),(.slice r.b r.o.length r.c)] ([oI zs 122 [(.slice bb bh.length bc),(.slice cb l.length cc)],aq cb cc 169 3 (du l),aq bb l_ 3 1 (bU bh)]++fZ 173 p) (fun v O'=> ∃uv uw l' p',v=.tuple #[]∧O'=[oI zs 122 [(.slice bb bh.length bc),(.slice uv l'.length uw)],aq uv uw 169 3 (du l'),aq bb l_ 3 1 (bU bh)]++fZ 173 p'∧l'.map CR.cf=(gz ls (f+1) bh k r.o).foldl add (l.map CR.cf)∧ld ls l' p'∧(∀x∈p,x∈p')):=by
 refine aG func109 F ntmps109 F ?_
 have hv:=hG.j4 hk
 have Ae:=ez hv.toVal
 have P6:k<bh.length:=by rw[hb.len];exact hk
 have Ww:=hb.lt k hk
 have N_:fO ls (k+1) r.o:=we.mono (Nat.le_succ k)
 refine ai (ah F (ad (bf F) (ad (ck gw F gy F F (aJ ho.bx) (by first|omega|(simp;done)|(simp;omega)|(simp_all;done)|(simp_all;omega))) (ad (c_ fx F F (aJ ho.bx) F) (ah F (ad (dU (i:=k) fx eZ F F (aJ ho.rw) hk (by rw[dY ho.kl];omega)) (ad (eP (vs:=[v8 ((lf ls k).op),vI (lf ls k).d.vars,vI (((lf ls k).d.start.toNat:Nat):Int),(.slice (lk ks k).k.nb ((lf ls k).d.next.length) ((lk ks k).k.nc)),(.slice (lk ks k).k.fb ((lf ls k).d.aV.length) ((lk ks k).k.fc)),(.slice (lk ks k).b ((lf ls k).fo.length) ((lk ks k).c)),.bool (lf ls k).la]) iw F eZ F F (bw _) (aJ ho.rw) (oB ho.kl hk hv.s0)) (ao F (bu eZ F (fun z1=>?_))))))))))
 refine ao F (bV (vs:=[v8 ((lf ls k).op),vI (lf ls k).d.vars,vI (((lf ls k).d.start.toNat:Nat):Int),(.slice (lk ks k).k.nb ((lf ls k).d.next.length) ((lk ks k).k.nc)),(.slice (lk ks k).k.fb ((lf ls k).d.aV.length) ((lk ks k).k.fc)),(.slice (lk ks k).b ((lf ls k).fo.length) ((lk ks k).c)),.bool (lf ls k).la]) 0 eZ F F F F ?_)
 refine ae (aU (ai (ad (bj iw F dF F F) (ad (bn 0 fF F F F F) (ad (aA (bM F F) (ak (by omega))) (aj F (ae (a_ F (aO ?_)))))))))
 refine fQ [(0,0),(1,0),(2,0),(3,0),(4,0),(5,0),(6,0),(7,0),(8,0),(9,0),(10,0),(11,0),(12,0),(13,0),(14,0),(15,0),(16,0),(17,0)] ?_
 refine au F (bj iw F dF F F) (au F (bn 0 fF F F F F) (au F (aA (bM F F) (av (by omega))) (au F (aK F) ?_)))
 refine bF F F F (bj iw F bK F F) ?_
 refine bF F F F (bj cS F dy F F) ?_
 refine bF F F F (bn 0 eu F F F F) ?_
 refine bF F F F (aK F) ?_
 refine bF F F F (bf F) ?_
 refine bF F F F (bj lW F cU F F) ?_
 refine bF F F F (bn 1 cI F F F F) ?_
 refine bF F F F (aK F) ?_
 refine bF F F F (dZ (i:=k) cI bl F F (dX (mG 3 F)) P6 (by rw[ar];exact P6)) ?_
 refine bF F F F (c_ dS F F (dX (mG 3 F)) (lH P6)) ?_
 refine bF F F F (dZ (i:=(bh.getD k 0)) eu fw F F (aJ (ho.dk _ hk).aV) (by rw[hv.fin];exact Ww) (by rw[ar,hv.fin];exact Ww)) ?_
 refine bF F F F (c_ Bh F F (aJ (ho.dk _ hk).aV) (oV hv Ww)) ?_
 refine au F (cg F F) (au F (cq F) ?_)
 refine cy ?_
 refine T.cond F (fun hc=>?_) (fun hc=>?_)
 ·have xJ:dD (lf ls k).d (bh.getD k 0)=true:=hc
  refine be (ah F (ah F (ah F (ah F ?_))))
  have IY:=cd.sub (O':=[oI zs 122 [(.slice bb bh.length bc),(.slice cb l.length cc)],aq cb cc 169 3 (du l),aq bb l_ 3 1 (bU bh)]++fZ 173 p) (O:=([oI z1 118 [v8 ((lf ls k).op),vI (lf ls k).d.vars,vI (((lf ls k).d.start.toNat:Nat):Int),(.slice (lk ks k).k.nb ((lf ls k).d.next.length) ((lk ks k).k.nc)),(.slice (lk ks k).k.fb ((lf ls k).d.aV.length) ((lk ks k).k.fc)),(.slice (lk ks k).b ((lf ls k).fo.length) ((lk ks k).c)),.bool (lf ls k).la],oI zs 122 [(.slice bb bh.length bc),(.slice cb l.length cc)],aq cb cc 169 3 (du l),aq bb l_ 3 1 (bU bh)]++(fZ 173 p))) (by exact(by exact Sub.d (.k (.k (.k .rf))))) (hL r N_ cb cc l p hS DD)
  refine ao F (bm AM IY F ?_)
  clear IY
  rintro vr O' ⟨N6,N7,l3,p3,rfl,rfl,N8,Iz,Dz⟩
  refine ae (az ?_)
  refine ru.zero Tryz.results109 ?_
  exact⟨_,cj (aZ _),N6,N7,l3,p3,F,F,by rw[N8];unfold gz;rw[ay (by omega),aR KM,aR xJ],Iz,Dz⟩
 have xJ: ¬dD (lf ls k).d (bh.getD k 0)=true:=by rw[hc];simp
 refine ai (ad (bj iw F dF F F) (ad (bn 0 fF F F F F) (ad (aA (bM F F) (ak (by omega))) (aj F (ae (a_ F (aE (az ?_))))))))
 refine ru.zero Tryz.results109 ?_
 exact⟨[oI zs 122 [(.slice bb bh.length bc),(.slice cb l.length cc)],aq cb cc 169 3 (du l),aq bb l_ 3 1 (bU bh)]++fZ 173 p,(by exact Sub.d (.k (.k (.k .rf)))),cb,cc,l,p,F,F,by unfold gz;rw[ay (by omega),aR KM,ay xJ];rfl,hS,fun x hx=>hx⟩
theorem Oa (base:World) [dB Tryz.prog base] (ob:Nat) (lb:Option Addr) (lc:Nat) (cv fv:Value) (ls:List Lf) (ks:List LK) (ho:kU base ob lb lc cv fv ls ks) (vs:Nat) (hG:ji ls vs) {K:Nat} (hK:qu ls K) (xI:K<1099511627776) (zs:Nat) (bb:Option Addr) (bc l_:Nat) (bh:List Nat) (hb:pJ ls bh) (k:Nat) (hk:k<ls.length) (KM:(lf ls k).op=0) (r:OB) (we:fO ls k r.o) (f:Nat) (hL: ∀r2:OB,fO ls (k+1) r2.o→qG base 115 [(d_ (aD ob) 0),(.pointer (aD zs)),vI ((k:Nat):Int),(.slice r2.b r2.o.length r2.c)] zs bb bc l_ bh ls r2 (gX ls f bh k r2.o)) (cb:Option Addr) (cc:Nat) (l:List CR) (p:List OB) (hS:ld ls l p) (DD:lZ p r):
  cd Tryz.prog base 109 [(d_ (aD ob) 0),(.pointer (aD zs)),vI ((k:Nat):Int),(.slice r.b r.o.length r.c)] ([oI zs 122 [(.slice bb bh.length bc),(.slice cb l.length cc)],aq cb cc 169 3 (du l),aq bb l_ 3 1 (bU bh)]++fZ 173 p) (fun v O'=> ∃uv uw l' p',v=.tuple #[]∧O'=[oI zs 122 [(.slice bb bh.length bc),(.slice uv l'.length uw)],aq uv uw 169 3 (du l'),aq bb l_ 3 1 (bU bh)]++fZ 173 p'∧l'.map CR.cf=(gz ls (f+1) bh k r.o).foldl add (l.map CR.cf)∧ld ls l' p'∧(∀x∈p,x∈p')):=by
 refine aG func109 F ntmps109 F ?_
 have hv:=hG.j4 hk
 have Ae:=ez hv.toVal
 have P6:k<bh.length:=by rw[hb.len];exact hk
 have Ww:=hb.lt k hk
 have N_:fO ls (k+1) r.o:=we.mono (Nat.le_succ k)
 refine ai (ah F (ad (bf F) (ad (ck gw F gy F F (aJ ho.bx) (by first|omega|(simp;done)|(simp;omega)|(simp_all;done)|(simp_all;omega))) (ad (c_ fx F F (aJ ho.bx) F) (ah F (ad (dU (i:=k) fx eZ F F (aJ ho.rw) hk (by rw[dY ho.kl];omega)) (ad (eP (vs:=[v8 ((lf ls k).op),vI (lf ls k).d.vars,vI (((lf ls k).d.start.toNat:Nat):Int),(.slice (lk ks k).k.nb ((lf ls k).d.next.length) ((lk ks k).k.nc)),(.slice (lk ks k).k.fb ((lf ls k).d.aV.length) ((lk ks k).k.fc)),(.slice (lk ks k).b ((lf ls k).fo.length) ((lk ks k).c)),.bool (lf ls k).la]) iw F eZ F F (bw _) (aJ ho.rw) (oB ho.kl hk hv.s0)) (ao F (bu eZ F (fun z1=>?_))))))))))
 refine ao F (bV (vs:=[v8 ((lf ls k).op),vI (lf ls k).d.vars,vI (((lf ls k).d.start.toNat:Nat):Int),(.slice (lk ks k).k.nb ((lf ls k).d.next.length) ((lk ks k).k.nc)),(.slice (lk ks k).k.fb ((lf ls k).d.aV.length) ((lk ks k).k.fc)),(.slice (lk ks k).b ((lf ls k).fo.length) ((lk ks k).c)),.bool (lf ls k).la]) 0 eZ F F F F ?_)
 refine ae (aU (ai (ad (bj iw F dF F F) (ad (bn 0 fF F F F F) (ad (aA (bM F F) (ak (by omega))) (aj F (ae (a_ F (aO ?_)))))))))
 refine fQ [(0,0),(1,0),(2,0),(3,0),(4,0),(5,0),(6,0),(7,0),(8,0),(9,0),(10,0),(11,0),(12,0),(13,0),(14,0),(15,0),(16,0),(17,0)] ?_
 refine au F (bj iw F dF F F) (au F (bn 0 fF F F F F) (au F (aA (bM F F) (ak (by omega))) (au F (aK F) (bN F F F (bN F F F (bN F F F (bN F F F (bN F F F (bN F F F (bN F F F ?_))))))))))
 refine bN F F F (bN F F F (bN F F F (bN F F F (bN F F F (au F (b_ F F) (au F (cq F) ?_))))))
 refine cy ?_
 refine a_ F (ai (ad (bj iw F dF F F) (ad (bn 0 fF F F F F) (ad (aA (bM F F) (av (by omega))) (aj F (ae ?_))))))
 refine bW F ?_
 refine ai (ah F (ah F (ah F (ad (bj iw F bK F F) (ad (bj cS F bl F F) (ad (bn 0 dS F F F F) (ah F (ad (cF (cs:=[vI ((k:Nat):Int),vI (((lf ls k).d.start.toNat:Nat):Int),(.slice r.b r.o.length r.c)]) AL jk (by kernel_rfl)) ?_))))))))
 have KA:=SA base hG hK xI (d_ (aD ob) 0) zs bb bc bh [oI z1 118 [v8 ((lf ls k).op),vI (lf ls k).d.vars,vI (((lf ls k).d.start.toNat:Nat):Int),(.slice (lk ks k).k.nb ((lf ls k).d.next.length) ((lk ks k).k.nc)),(.slice (lk ks k).k.fb ((lf ls k).d.aV.length) ((lk ks k).k.fc)),(.slice (lk ks k).b ((lf ls k).fo.length) ((lk ks k).c)),.bool (lf ls k).la],aq bb l_ 3 1 (bU bh)] cb cc l p ⟨(k:Int),(lf ls k).d.start.toNat,r⟩ hS (.inr ⟨k,F,hk,Ae,we⟩) DD (O:=[oI z1 118 [v8 ((lf ls k).op),vI (lf ls k).d.vars,vI (((lf ls k).d.start.toNat:Nat):Int),(.slice (lk ks k).k.nb ((lf ls k).d.next.length) ((lk ks k).k.nc)),(.slice (lk ks k).k.fb ((lf ls k).d.aV.length) ((lk ks k).k.fc)),(.slice (lk ks k).b ((lf ls k).fo.length) ((lk ks k).c)),.bool (lf ls k).la],oI zs 122 [(.slice bb bh.length bc),(.slice cb l.length cc)],aq cb cc 169 3 (du l),aq bb l_ 3 1 (bU bh)]) (by exact Sub.eQ [oI z1 118 [v8 ((lf ls k).op),vI (lf ls k).d.vars,vI (((lf ls k).d.start.toNat:Nat):Int),(.slice (lk ks k).k.nb ((lf ls k).d.next.length) ((lk ks k).k.nc)),(.slice (lk ks k).k.fb ((lf ls k).d.aV.length) ((lk ks k).k.fc)),(.slice (lk ks k).b ((lf ls k).fo.length) ((lk ks k).c)),.bool (lf ls k).la]] _ (.eQ [oI z1 118 [v8 ((lf ls k).op),vI (lf ls k).d.vars,vI (((lf ls k).d.start.toNat:Nat):Int),(.slice (lk ks k).k.nb ((lf ls k).d.next.length) ((lk ks k).k.nc)),(.slice (lk ks k).k.fb ((lf ls k).d.aV.length) ((lk ks k).k.fc)),(.slice (lk ks k).b ((lf ls k).fo.length) ((lk ks k).c)),.bool (lf ls k).la]] _ (.k (.k .z))))
 refine ao F (bm ED KA F ?_)
 clear KA
 rintro vr O' ⟨CF,CG,l4,rfl,rfl,SC,SD⟩
 refine ae (ai (ad (bj iw F bK F F) (ad (bj cS F dy F F) (ad (bn 2 eu F F F F) (ad (bj iw F bK F F) (ad (bj cS F bl F F) (ad (bn 2 dS F F F F) (ad (dZ (i:=((lf ls k).d.start.toNat)) eu fw F F (aJ (ho.dk _ hk).aV) (by rw[hv.fin];exact Ae) (by rw[ar,hv.fin];exact Ae)) (ad (c_ Bh F F (aJ (ho.dk _ hk).aV) (oV hv Ae)) (ae (T.cond F (fun hc=>?_) (fun hc=>?_))))))))))))
 ·have xJ:dD (lf ls k).d (lf ls k).d.start.toNat=true:=hc
  refine be (ah F (ah F (ah F (ah F ?_))))
  have Wy:=cd.sub (O':=[oI zs 122 [(.slice bb bh.length bc),(.slice CF l4.length CG)],aq CF CG 169 3 (du l4),aq bb l_ 3 1 (bU bh)]++fZ 173 p) (O:=([oI zs 122 [(.slice bb bh.length bc),(.slice CF l4.length CG)],aq CF CG 169 3 (du l4),oI z1 118 [v8 ((lf ls k).op),vI (lf ls k).d.vars,vI (((lf ls k).d.start.toNat:Nat):Int),(.slice (lk ks k).k.nb ((lf ls k).d.next.length) ((lk ks k).k.nc)),(.slice (lk ks k).k.fb ((lf ls k).d.aV.length) ((lk ks k).k.fc)),(.slice (lk ks k).b ((lf ls k).fo.length) ((lk ks k).c)),.bool (lf ls k).la],aq bb l_ 3 1 (bU bh)]++(fZ 173 p))) (by exact(by exact Sub.k (.k (.d (.k .rf))))) (hL r N_ CF CG l4 p SD DD)
  refine ao F (bm AM Wy F ?_)
  clear Wy
  rintro vr O' ⟨N6,N7,l3,p3,rfl,rfl,N8,Iz,Dz⟩
  refine ae (az ?_)
  refine ru.zero Tryz.results109 ?_
  exact⟨_,cj (aZ _),N6,N7,l3,p3,F,F,by rw[N8,SC];unfold gz;rw[ay (by omega),ay (by omega),aR xJ];rfl,Iz,Dz⟩
 have xJ: ¬dD (lf ls k).d (lf ls k).d.start.toNat=true:=by rw[hc];simp
 refine aE (az ?_)
 refine ru.zero Tryz.results109 ?_
 exact⟨[oI zs 122 [(.slice bb bh.length bc),(.slice CF l4.length CG)],aq CF CG 169 3 (du l4),aq bb l_ 3 1 (bU bh)]++fZ 173 p,(by exact Sub.k (.k (.d (.k .rf)))),CF,CG,l4,p,F,F,by rw[SC];unfold gz;rw[ay (by omega),ay (by omega),ay xJ];rfl,SD,fun x hx=>hx⟩
theorem EE (base:World) [dB Tryz.prog base] (ob:Nat) (lb:Option Addr) (lc:Nat) (cv fv:Value) (ls:List Lf) (ks:List LK) (ho:kU base ob lb lc cv fv ls ks) (vs:Nat) (hG:ji ls vs) {K:Nat} (hK:qu ls K) (xI:K<1099511627776) (zs:Nat) (bb:Option Addr) (bc l_:Nat) (bh:List Nat) (hb:pJ ls bh): ∀f:Nat,
  (∀(k:Nat) (r:OB),k<ls.length→2*(ls.length-k)≤f→fO ls k r.o→qG base 109 [(d_ (aD ob) 0),(.pointer (aD zs)),vI ((k:Nat):Int),(.slice r.b r.o.length r.c)] zs bb bc l_ bh ls r (gz ls f bh k r.o))∧
  (∀(k:Nat) (r:OB),k<ls.length→2*(ls.length-k)≤f+1→fO ls (k+1) r.o→qG base 115 [(d_ (aD ob) 0),(.pointer (aD zs)),vI ((k:Nat):Int),(.slice r.b r.o.length r.c)] zs bb bc l_ bh ls r (gX ls f bh k r.o))
 |0=>⟨fun k r hk hf=>absurd hf (by omega),fun k r hk hf=>absurd hf (by omega)⟩
 |f+1=>by
  obtain⟨h1,h2⟩:=EE base ob lb lc cv fv ls ks ho vs hG hK xI zs bb bc l_ bh hb f
  refine⟨fun k r hk hf we=>?_,fun k r hk hf we=>?_⟩
  ·have hL: ∀r2:OB,fO ls (k+1) r2.o→qG base 115 [(d_ (aD ob) 0),(.pointer (aD zs)),vI ((k:Nat):Int),(.slice r2.b r2.o.length r2.c)] zs bb bc l_ bh ls r2 (gX ls f bh k r2.o):=fun r2 KO=>h2 k r2 hk (by omega) KO
   intro cb cc l p hS DD
   rcases hG.op _ (ko hk)with h|h|h
   ·exact Oa base ob lb lc cv fv ls ks ho vs hG hK xI zs bb bc l_ bh hb k hk h r we f hL cb cc l p hS DD
   ·exact SE base ob lb lc cv fv ls ks ho vs hG hK xI zs bb bc l_ bh hb k hk h r we f hL cb cc l p hS DD
   ·exact SF base ob lb lc cv fv ls ks ho vs hG hK xI zs bb bc l_ bh hb k hk h r we f hL cb cc l p hS DD
  ·intro cb cc l p hS DD
   exact SB base ob lb lc cv fv ls ks ho vs hG hK xI zs bb bc l_ bh hb k hk r (we.mono hk) f (fun j hj=>h1 j r (hG.fo k hk j hj).2 (by have:=hG.fo k hk j hj;omega) (we.mono (hG.fo k hk j hj).1)) cb cc l p hS DD
end Go.Proofs.YtgdbfideeeegmaaGreatDoor

namespace Go.Proofs.YtgdbfideeeegmaaGreatDoor
open Go.Lx Go.RowKit _root_.Go.Proofs.Tryz
theorem Oj (w:World) [dB Tryz.prog w] (eb:Option Addr) (ec:Nat) (e:List eE) (hE:Sl w eb (bX e)) (DE:e.length≤64) (oz: ∀x∈e,x.p<256∧x.n<256) (v:Nat) (hv:v≤6):
  cA Tryz.prog 89 [.slice eb e.length ec,vN v] w fun r N=>(∃n,jP v e=.error n∧r=.tuple #[nS,vI (n:Int)]∧N=[])∨(∃fs b c,jP v e=.ok fs∧r=.tuple #[.slice b e.length c,vI 0]∧N=[aq b c 3 1 (bU fs)]):=by
 refine aG func89 F ntmps89 F ?_
 refine ai (aj F (aj F (ae (aO (ai (ah F (ad (cP dJ F) (ah F (ae (aU (T.eY 3 1 ?_)))))))))))
 refine dM (fun(i:Nat) ρ O=> ∃(fs:List Nat) (b:Option Addr) (c:Nat),O=[aq b c 3 1 (bU fs)]∧i≤e.length∧fs.length=i∧jP v (e.take i)=.ok fs∧(∀j,j<i→fs.getD j 0≤j)∧dt [(0,(.slice eb e.length ec)),(1,vN v),(4,(.slice b i c)),(10,(.slice eb e.length ec)),(11,vI (e.length:Int)),(12,vN i)] ρ) (fun i=>e.length-i) 0 ?_ ?_
 ·exact⟨[],none,0,F,bs _,F,F,fun j hj=>absurd hj (by omega),(.of F)⟩
 rintro i ρ O ⟨fs,b,c,rfl,hi,qY,mf,xJ,hH⟩
 obtain⟨gP,rfl⟩:=hH.elim
 clear hH
 refine ai (ad (cR F F) (ae (aO (aP F (fun hc=>?_) (fun hc=>?_)))))
 ·have lm:i<e.length:=by omega
  have Mu:=oz _ (aL lm)
  refine aE (aO (aU (ai (ah F (ad (dU (i:=i) dJ cK F F (aJ hE) lm (by rw[cz];omega)) (ad (eP (vs:=e[i].cl) cp F cK F F (bw _) (aJ hE) (lE lm)) (ao F (bu cK F (fun z1=>?_)))))))))
  refine aj F (ao F (bV (vs:=e[i].cl) 0 cK F F F F ?_))
  refine ae (aO (ai (ad (ew 0 cp F cK F F F) (ah F ?_))))
  have qp:=fun(w1:World) (hI:Inv w [oI z1 72 e[i].cl,aq b c 3 1 (bU fs)] w1)=>(haveI:=ey hI;SS w1 e[i] v Mu.1 Mu.2 hv)
  refine ao F (bm SU (aX qp) F ?_)
  clear qp
  rintro vr O' ⟨N,rfl,rfl,rfl⟩
  refine aj F (ae (ai (ah F (ad (dP F F) (ae (aP F (fun hc=>?_) (fun hc=>?_)))))))
  ·have uU:fY v e[i]≠0:=by omega
   have ve:fY v e[i]≠0:=by omega
   refine ai (ah F (aj F (aj F (ae (aN (az ?_))))))
   refine dc nS (vI (fY v e[i]:Int)) Tryz.results89 F F ?_
   have hs:gC v fs e[i]=.error (fY v e[i]):=by unfold gC;simp only[qY];rw[aR ve]
   exact⟨[],Sub.z,.inl ⟨_,jI lm mf hs,F,F⟩⟩
  have wN: ¬fY v e[i]≠0:=by omega
  have ve: ¬fY v e[i]≠0:=by omega
  refine aE (ai (ah F (aj F (ae (aO (aO ?_))))))
  refine fQ [(1,0),(2,0),(0,1),(3,2),(4,2)] ?_
  refine au F (bj cp F dF F F) (au F (bn 0 fF F F F F) ?_)
  have tu:=fun(w1:World) (hI:Inv w [oI z1 72 e[i].cl,aq b c 3 1 (bU fs)] w1)=>(haveI:=ey hI;pk w1)
  refine cx F F (bm F3 (aX tu) F ?_)
  clear tu
  rintro vr O' ⟨N,rfl,m,rfl,rfl⟩
  refine⟨by exact Sub.d (.k (.k .z)),?_⟩
  refine cu F F (eO F F (bT (qe (a:=e[i].op) vU lr (gB.u8 fF) F F (mG 0 F)) (v':=(.agg #[vN (dQ e[i].op),str (jH e[i].op).1,str (jH e[i].op).2.1,str (jH e[i].op).2.2])) (tC e[i].op)) ?_)
  refine cu F F (eO F F (Fv CV F dS F F F) ?_)
  refine cy ?_
  refine aU (ai ?_)
  refine ad (bM F F) (aj F (ae (aP F (fun hc=>?_) (fun hc=>?_))))
  ·have V7:dQ e[i].op=1:=by omega
   have vQ:dQ e[i].op=1:=by omega
   refine aO (ai (ah F (ad (bM F F) ?_)))
   by_cases W4:((i:Nat):Int)=0
   ·refine ad (aA (aK F) (av W4)) ?_
    refine aS F F (aS F F (aS F F (aS F F (aS F F (ad (cg F F) (ae ?_))))))
    refine bW F ?_
    refine ai (aj F (aj F (ae (aN (az ?_)))))
    refine dc nS (vI 8) Tryz.results89 F F ?_
    have hs:gC v fs e[i]=.error 8:=by unfold gC;simp only[qY];first|(rw[ay ve,aR vQ,aR (by omega)];done)|(rw[ay ve,ay vQ,aR sH,aR (by omega)];done)
    exact⟨[],Sub.z,.inl ⟨8,jI lm mf hs,F,F⟩⟩
   refine ad (aA (aK F) (ak W4)) (aB F F (bj cp F bl F F) (aB F F (bn 1 dS F F F F) (aB F F (aK F) (aB F F (bT (fL F F (by omega)) (v':=vN (i-1)) (ax (Value.int .i64) (by omega))) (aB F F (dP F F) (ad (b_ F F) (ae (aP F (fun hc=>?_) (fun hc=>?_)))))))))
   ·refine aO ?_
    refine be (aj F (aj F (ae (aN (az ?_)))))
    refine dc nS (vI 8) Tryz.results89 F F ?_
    have hs:gC v fs e[i]=.error 8:=by unfold gC;simp only[qY];first|(rw[ay ve,aR vQ,aR (by omega)];done)|(rw[ay ve,ay vQ,aR sH,aR (by omega)];done)
    exact⟨[],Sub.z,.inl ⟨8,jI lm mf hs,F,F⟩⟩
   have Pv:e[i].a=(((i-1):Nat):Int):=by omega
   have hfi:=xJ (i-1) (by omega)
   refine aE (be (ah F (ah F (ad (bT (fL F F (by omega)) (v':=vN (i-1)) (ax (Value.int .i64) (by omega))) (ad (dZ (i:=(i-1)) cI bl F F (dX (mG 2 F)) (by omega) (by rw[ar];omega)) (ad (c_ dS F F (dX (mG 2 F)) (lH (show i-1<fs.length by omega))) (aj F (ae (be (ah F (ah F (ao F (cO (v:=vN (fs.getD (i-1) 0)) cI bl F F F (fun z2=>?_))))))))))))))
   refine ao F (dh 3 cI cI bl F F F F (by rw[ar];omega) (by decide) (Src.row (j:=0) F (by simp)) (by simp[fu]) (by omega) (by decide) (by decide) (fun z3 nU=>?_))
   refine aj F (ae (be (ad (dx (a:=i) (b:=1) F F (by omega)) (ah F (ae ?_)))))
   have hs:gC v fs e[i]=.ok (fs.getD (i-1) 0):=by unfold gC;simp only[qY];rw[ay ve,aR vQ,ay (by omega)]
   exact⟨i+1,by omega,[aq z3 nU 3 1 ((bU fs)++[vN (fs.getD (i-1) 0)])],(by exact Sub.d (.d (.d (.k .z)))),fs++[(fs.getD (i-1) 0)],z3,nU,by rw[show bU (fs++[(fs.getD (i-1) 0)])=bU fs++[vN (fs.getD (i-1) 0)]from bo],by omega,by simp[qY],qN lm mf hs,rj qY xJ (by omega),(.of F)⟩
  have V8: ¬dQ e[i].op=1:=by omega
  have vQ: ¬dQ e[i].op=1:=by omega
  refine ai (ad (bM F F) (aj F (ae (aP F (fun hc=>?_) (fun hc=>?_)))))
  ·have abZ:dQ e[i].op=2:=by omega
   have sH:dQ e[i].op=2:=by omega
   have ad0:fs.getD (i-1) 0≤i:=by
    by_cases h9:i=0
    ·rw[List.length_eq_zero_iff.1 (show fs.length=0 by omega)];simp
    ·have:=xJ (i-1) (by omega);omega
   refine aO (aO ?_)
   refine fQ [(0,0),(1,0),(2,0),(3,0),(4,0),(5,0),(6,0),(7,0),(8,0),(9,0),(10,0),(11,0),(12,0),(13,0),(14,0),(15,0),(16,0),(17,0),(18,0),(19,0),(20,0),(21,0),(22,0),(23,0),(24,0),(25,0),(26,0),(27,0)] ?_
   refine au F (aK F) (au F (bM F F) ?_)
   by_cases W4:((i:Nat):Int)=0
   ·refine au F (aA (aK F) (av W4)) ?_
    refine bN F F F (bN F F F (bN F F F (bN F F F (bN F F F (au F (cg F F) (au F (aK F) (bN F F F (bN F F F ?_))))))))
    refine bN F F F (bN F F F (bN F F F (bN F F F (au F (cg F F) (au F (aK F) (bN F F F (bN F F F (bN F F F ?_))))))))
    refine bN F F F (bN F F F (bN F F F (bN F F F (bN F F F (bN F F F (au F (cg F F) ?_))))))
    refine cy ?_
    refine bW F ?_
    refine ai (aj F (aj F (ae (aN (az ?_)))))
    refine dc nS (vI 8) Tryz.results89 F F ?_
    have hs:gC v fs e[i]=.error 8:=by unfold gC;simp only[qY];first|(rw[ay ve,aR vQ,aR (by omega)];done)|(rw[ay ve,ay vQ,aR sH,aR (by omega)];done)
    exact⟨[],Sub.z,.inl ⟨8,jI lm mf hs,F,F⟩⟩
   refine au F (aA (aK F) (ak W4)) ?_
   refine bF F F F (bj cp F bl F F) ?_
   refine bF F F F (bn 1 dS F F F F) ?_
   refine bF F F F (aK F) ?_
   refine bF F F F (bT (fL F F (by omega)) (v':=vN (i-1)) (ax (Value.int .i64) (by omega))) ?_
   refine bF F F F (dP F F) ?_
   refine au F (b_ F F) ?_
   by_cases Hk:e[i].b≠(((i-1):Nat):Int)
   ·refine au F (aA (aK F) (av Hk)) ?_
    refine bN F F F (bN F F F (bN F F F (bN F F F (bN F F F (bN F F F (au F (cg F F) (au F (aK F) (bN F F F ?_))))))))
    refine bN F F F (bN F F F (bN F F F (bN F F F (bN F F F (bN F F F (bN F F F (bN F F F ?_)))))))
    refine au F (cg F F) ?_
    refine cy ?_
    refine bW F ?_
    refine ai (aj F (aj F (ae (aN (az ?_)))))
    refine dc nS (vI 8) Tryz.results89 F F ?_
    have hs:gC v fs e[i]=.error 8:=by unfold gC;simp only[qY];first|(rw[ay ve,aR vQ,aR (by omega)];done)|(rw[ay ve,ay vQ,aR sH,aR (by omega)];done)
    exact⟨[],Sub.z,.inl ⟨8,jI lm mf hs,F,F⟩⟩
   refine au F (aA (aK F) (ak Hk)) ?_
   refine bF F F F (aK F) ?_
   refine bF F F F (aK F) ?_
   refine bF F F F (bT (fL F F (by omega)) (v':=vN (i-1)) (ax (Value.int .i64) (by omega))) ?_
   refine bF F F F (dZ (i:=(i-1)) cI bl F F (dX (mG 2 F)) (by omega) (by rw[ar];omega)) ?_
   refine bF F F F (c_ dS F F (dX (mG 2 F)) (lH (show i-1<fs.length by omega))) ?_
   refine bF F F F (bM F F) ?_
   refine au F (b_ F F) ?_
   by_cases Ym:((fs.getD (i-1) 0:Nat):Int)=0
   ·refine au F (aA (aK F) (av Ym)) ?_
    refine bN F F F (bN F F F (bN F F F (bN F F F (bN F F F (bN F F F (bN F F F (bN F F F ?_)))))))
    refine bN F F F (au F (cg F F) ?_)
    refine cy ?_
    refine bW F ?_
    refine ai (aj F (aj F (ae (aN (az ?_)))))
    refine dc nS (vI 8) Tryz.results89 F F ?_
    have hs:gC v fs e[i]=.error 8:=by unfold gC;simp only[qY];first|(rw[ay ve,aR vQ,aR (by omega)];done)|(rw[ay ve,ay vQ,aR sH,aR (by omega)];done)
    exact⟨[],Sub.z,.inl ⟨8,jI lm mf hs,F,F⟩⟩
   refine au F (aA (aK F) (ak Ym)) ?_
   refine bF F F F (bj cp F bl F F) ?_
   refine bF F F F (bn 1 dS F F F F) ?_
   refine bF F F F (aK F) ?_
   refine bF F F F (aK F) ?_
   refine bF F F F (bT (fL F F (by omega)) (v':=vN (i-1)) (ax (Value.int .i64) (by omega))) ?_
   refine bF F F F (dZ (i:=(i-1)) cI bl F F (dX (mG 2 F)) (by omega) (by rw[ar];omega)) ?_
   refine bF F F F (c_ dS F F (dX (mG 2 F)) (lH (show i-1<fs.length by omega))) ?_
   refine bF F F F (bT (fL F F (by omega)) (v':=vN (fs.getD (i-1) 0-1)) (ax (Value.int .i64) (by omega))) ?_
   refine bF F F F (dP F F) ?_
   refine au F (b_ F F) ?_
   refine cy ?_
   refine aP F (fun hc=>?_) (fun hc=>?_)
   ·refine aO ?_
    refine be (aj F (aj F (ae (aN (az ?_)))))
    refine dc nS (vI 8) Tryz.results89 F F ?_
    have hs:gC v fs e[i]=.error 8:=by unfold gC;simp only[qY];first|(rw[ay ve,aR vQ,aR (by omega)];done)|(rw[ay ve,ay vQ,aR sH,aR (by omega)];done)
    exact⟨[],Sub.z,.inl ⟨8,jI lm mf hs,F,F⟩⟩
   have Pv:e[i].a=(((fs.getD (i-1) 0-1):Nat):Int):=by omega
   have hfi:=xJ (i-1) (by omega)
   have Yn:=xJ (fs.getD (i-1) 0-1) (by omega)
   refine aE (be (ah F (ad (bj cp F bl F F) (ad (bT (bn 1 dS F F F F) (v':=vN (fs.getD (i-1) 0-1)) (by show Value.int _ e[i].a=_;rw[Pv])) (ad (dZ (i:=(fs.getD (i-1) 0-1)) cI bl F F (dX (mG 2 F)) (by omega) (by rw[ar];omega)) (ad (c_ dS F F (dX (mG 2 F)) (lH (show(fs.getD (i-1) 0-1)<fs.length by omega))) (aj F (ae (be (ah F (ah F (ao F (cO (v:=vN (fs.getD (fs.getD (i-1) 0-1) 0)) cI bl F F F (fun z5=>?_))))))))))))))
   refine ao F (dh 3 cI cI bl F F F F (by rw[ar];omega) (by decide) (Src.row (j:=0) F (by simp)) (by simp[fu]) (by omega) (by decide) (by decide) (fun z6 Ht=>?_))
   refine aj F (ae (be (ad (dx (a:=i) (b:=1) F F (by omega)) (ah F (ae ?_)))))
   have hs:gC v fs e[i]=.ok (fs.getD (fs.getD (i-1) 0-1) 0):=by unfold gC;simp only[qY];rw[ay ve,ay vQ,aR sH,ay (by omega),Pv,Int.toNat_natCast]
   exact⟨i+1,by omega,[aq z6 Ht 3 1 ((bU fs)++[vN (fs.getD (fs.getD (i-1) 0-1) 0)])],(by exact Sub.d (.d (.d (.k .z)))),fs++[(fs.getD (fs.getD (i-1) 0-1) 0)],z6,Ht,by rw[show bU (fs++[(fs.getD (fs.getD (i-1) 0-1) 0)])=bU fs++[vN (fs.getD (fs.getD (i-1) 0-1) 0)]from bo],by omega,by simp[qY],qN lm mf hs,rj qY xJ (by omega),(.of F)⟩
  have W5: ¬dQ e[i].op=2:=by omega
  have sH: ¬dQ e[i].op=2:=by omega
  refine aE (be (ah F (ah F (ao F (cO (v:=vN i) cI bl F F F (fun z8=>?_))))))
  refine ao F (dh 3 cI cI bl F F F F (by rw[ar];omega) (by decide) (Src.row (j:=0) F (by simp)) (by simp[fu]) (by omega) (by decide) (by decide) (fun z9 pe=>?_))
  refine aj F (ae (be (ad (dx (a:=i) (b:=1) F F (by omega)) (ah F (ae ?_)))))
  have hs:gC v fs e[i]=.ok i:=by unfold gC;simp only[qY];rw[ay ve,ay vQ,ay sH]
  exact⟨i+1,by omega,[aq z9 pe 3 1 ((bU fs)++[vN i])],(by exact Sub.d (.d (.d (.k .z)))),fs++[i],z9,pe,by rw[show bU (fs++[i])=bU fs++[vN i]from bo],by omega,by simp[qY],qN lm mf hs,rj qY xJ (a8 _),(.of F)⟩
 have JD: ¬i<e.length:=by omega
 refine cG ?_
 refine ai (ah F (aj F (aj F (ae (aN (az ?_))))))
 refine dc (.slice b i c) (vI 0) Tryz.results89 F F ?_
 have wj:i=e.length:=by omega
 subst wj
 rw[List.take_length]at mf
 exact⟨[aq b c 3 1 (bU fs)],(by exact Sub.rf),.inr ⟨fs,b,c,mf,F,F⟩⟩
end Go.Proofs.YtgdbfideeeegmaaGreatDoor

namespace Go.Proofs.YtgdbfideeeegmaaGreatDoor
open Go.Lx Go.RowKit _root_.Go.Proofs.Tryz
theorem Ol (w:World) [dB Tryz.prog w] (eb:Option Addr) (ec:Nat) (e:List eE) (hE:Sl w eb (bX e)) (z2 z8:Nat) (h2:Sl w (aD z2) [.slice eb e.length ec]) (h8:Sl w (aD z8) [(.func (.func 90) #[] #[(d_ (aD z2) 0),(d_ (aD z8) 0)])]) (i f:Nat) (fr:Bool) (hi:i<e.length) (FE:1≤dQ e[i].op→ ∀w1 [dB Tryz.prog w1],Inv w [] w1→ ∀g:Bool,eK Tryz.prog w1 (.func (.func 90) #[] #[(d_ (aD z2) 0),(d_ (aD z8) 0)]) [vI e[i].a,.bool g] [] (fun v N=>v=.bool (mh e f e[i].a.toNat g)∧N=[])) (JF:2≤dQ e[i].op→ ∀w1 [dB Tryz.prog w1],Inv w [] w1→ ∀g:Bool,eK Tryz.prog w1 (.func (.func 90) #[] #[(d_ (aD z2) 0),(d_ (aD z8) 0)]) [vI e[i].b,.bool g] [] (fun v N=>v=.bool (mh e f e[i].b.toNat g)∧N=[])):
  cA Tryz.prog 90 [vN i,.bool fr,(d_ (aD z2) 0),(d_ (aD z8) 0)] w fun v N=>v=.bool (mh e (f+1) i fr)∧N=[]:=by
 refine aG func90 F ntmps90 F ?_
 refine ai (aj F (ae (ai (ad (c_ dJ F F (aJ h2) F) (ah F (ad (dU (i:=i) dJ cK F F (aJ hE) hi (by rw[cz];omega)) (ad (eP (vs:=e[i].cl) cp F cK F F (bw _) (aJ hE) (lE hi)) (ao F (bu cK F (fun z1=>?_))))))))))
 refine ao F (bV (vs:=e[i].cl) 0 cK F F F F ?_)
 refine ae ?_
 let eJ:Lx.Item:=oI z1 72 e[i].cl
 refine gh (fun ρ O=>Sub [eJ] O∧(¬((e[i].op=9∨e[i].op=10)∧fr=false))∧dt [(0,vN i),(1,.bool fr),(2,(d_ (aD z2) 0)),(3,(d_ (aD z8) 0)),(7,(.pointer (aD z1)))] ρ) ?_ ?_
 ·refine aO ?_
  refine be (ad (bj cp F dF F F) (ad (bn 0 fF F F F F) (ad (bM F F) ?_)))
  by_cases h9:((e[i].op:Nat):Int)=9
  ·refine ad (aA (aK F) (av h9)) ?_
   refine aS F F (aS F F (aS F F (ad (cg F F) (ah F (aB F F (aK F) (aB F F (i_ F) (ad (cg F F) (ae (T.cond F (fun hc=>?_) (fun hc=>?_))))))))))
   ·refine aO ?_
    refine be (aj F (ae (aN (az ?_))))
    refine aT (.bool false) Tryz.results90 F ?_
    exact⟨[],Sub.z,ax Value.bool (by rw[iC hi,aR ⟨by omega,by simpa using hc⟩]),F⟩
   refine aE ?_
   exact⟨(by exact Sub.rf),(fun h=>by rw[h.2]at hc;exact absurd hc (by decide)),(.of F)⟩
  refine ad (aA (aK F) (ak h9)) (aB F F (bj cp F dF F F) (aB F F (bn 0 fF F F F F) (aB F F (bM F F) ?_)))
  by_cases TR:((e[i].op:Nat):Int)=10
  ·refine ad (aA (b_ F F) (av TR)) ?_
   refine ah F (aB F F (aK F) (aB F F (i_ F) (ad (cg F F) (ae (T.cond F (fun hc=>?_) (fun hc=>?_))))))
   ·refine aO ?_
    refine be (aj F (ae (aN (az ?_))))
    refine aT (.bool false) Tryz.results90 F ?_
    exact⟨[],Sub.z,ax Value.bool (by rw[iC hi,aR ⟨by omega,by simpa using hc⟩]),F⟩
   refine aE ?_
   exact⟨(by exact Sub.rf),(fun h=>by rw[h.2]at hc;exact absurd hc (by decide)),(.of F)⟩
  refine ad (aA (b_ F F) (ak TR)) (ah F (aS F F (aS F F (ad (b_ F F) (ae (a_ F (aE ?_)))))))
  exact⟨(by exact Sub.rf),(fun h=>absurd h.1 (by omega)),(.of F)⟩
 rintro ρ O ⟨hS,Yo,hH⟩
 obtain⟨gP,rfl⟩:=hH.elim
 clear hH
 refine dv hS ?_
 refine gh (fun ρ O=>Sub [eJ] O∧dt [(0,vN i),(1,.bool (fr&&decide (e[i].op=4∨e[i].op=5))),(2,(d_ (aD z2) 0)),(3,(d_ (aD z8) 0)),(7,(.pointer (aD z1)))] ρ) ?_ ?_
 ·refine be ?_
  by_cases JG:fr=true
  ·refine ad (aA (aK F) (JG)) ?_
   refine ah F (aB F F (bj cp F dF F F) (aB F F (bn 0 fF F F F F) (aB F F (bM F F) ?_)))
   by_cases h4:((e[i].op:Nat):Int)=4
   ·refine aB F F (aA (aK F) (av h4)) ?_
    refine aS F F (aS F F (aS F F (aB F F (cg F F) (ad (cg F F) (aj F (ae ?_))))))
    exact⟨(by exact Sub.rf),⟨F,(ax Value.bool (by rw[JG,av (show e[i].op=4∨e[i].op=5 by omega)];rfl)),F,F,F,trivial⟩⟩
   refine aB F F (aA (aK F) (ak h4)) (aB F F (bj cp F dF F F) (aB F F (bn 0 fF F F F F) (aB F F (bM F F) (aB F F (b_ F F) (ad (cg F F) (aj F (ae ?_)))))))
   exact⟨(by exact Sub.rf),⟨F,(ax Value.bool (by rw[JG,Bool.true_and];exact decide_eq_decide.2 (by omega))),F,F,F,trivial⟩⟩
  refine ad (aA (aK F) (Bool.eq_false_iff.2 JG)) (ah F (aS F F (aS F F (aS F F (aS F F (aS F F (aS F F (aS F F ?_))))))))
  refine aS F F (ad (b_ F F) (aj F (ae ?_)))
  exact⟨(by exact Sub.rf),⟨F,(ax Value.bool (by rw[Bool.eq_false_iff.2 JG];rfl)),F,F,F,trivial⟩⟩
 rintro ρ O ⟨hS,hH⟩
 obtain⟨gP,rfl⟩:=hH.elim
 clear hH
 refine dv hS ?_
 refine aO ?_
 refine fQ [(1,0),(2,0),(0,1),(3,2),(4,2),(5,2)] ?_
 refine au F (bj cp F dF F F) (au F (bn 0 fF F F F F) ?_)
 have B9:=fun(w1:World) (hI:Inv w [eJ] w1)=>(haveI:=ey hI;pk w1)
 refine cx F F (bm F3 (aX B9) F ?_)
 clear B9
 rintro vr O' ⟨N,rfl,m,rfl,rfl⟩
 refine⟨by exact Sub.d (.k .z),?_⟩
 refine cu F F (eO F F (bT (qe (a:=e[i].op) vU lr (gB.u8 fF) F F (mG 0 F)) (v':=(.agg #[vN (dQ e[i].op),str (jH e[i].op).1,str (jH e[i].op).2.1,str (jH e[i].op).2.2])) (tC e[i].op)) ?_)
 refine cu F F (eO F F (Fv CV F dS F F F) ?_)
 refine cu F F (eO F F (cq F) ?_)
 refine cy ?_
 refine ai (ah F (ad (cR F F) ?_))
 by_cases yG:((dQ e[i].op:Nat):Int)<1
 ·refine ad (aA (aK F) (av yG)) ?_
  refine aS F F (aS F F (aS F F (aS F F (aS F F (ad (cg F F) (ah F (aB F F (aK F) (aB F F (aA (cR F F) (av (by omega))) ?_))))))))
  refine aB F F (aK F) (aS F F (aS F F (aS F F (aS F F (aS F F (aB F F (cg F F) (ad (cg F F) (aj F ?_))))))))
  refine ae (aN (az ?_))
  refine aT (.bool true) Tryz.results90 F ?_
  exact⟨[],Sub.z,ax Value.bool (by rw[iC hi,ay Yo,av (show dQ e[i].op<1 by omega),av (show dQ e[i].op<2 by omega)];rfl),F⟩
 refine ad (aA (aK F) (ak yG)) (aB F F (c_ K2 F F (aJ h8) F) (aB F F (bj cp F bl F F) (aB F F (bn 1 dS F F F F) (aB F F (aK F) ?_))))
 have W6:=(eo (base:=w) (O:=[CU m,eJ]) fun w1 hI=>haveI:=ey hI;haveI:=ey hI;FE (by omega) w1 hI.mq (fr&&decide (e[i].op=4∨e[i].op=5)))
 refine iv F F F (fh W6 F F ?_)
 clear W6
 rintro vr O' ⟨N,rfl,rfl,rfl⟩
 refine ad (b_ F F) ?_
 by_cases W7:(mh e f e[i].a.toNat (fr&&decide (e[i].op=4∨e[i].op=5)))=true
 ·refine ad (aA (aK F) (W7)) ?_
  refine aB F F (aK F) (aB F F (cR F F) ?_)
  by_cases rG:((dQ e[i].op:Nat):Int)<2
  ·refine aB F F (aA (aK F) (av rG)) ?_
   refine aS F F (aS F F (aS F F (aS F F (aS F F (aB F F (cg F F) (ad (cg F F) (aj F (ae (aN (az ?_))))))))))
   refine aT (.bool true) Tryz.results90 F ?_
   exact⟨[],Sub.z,ax Value.bool (by rw[iC hi,ay Yo,ak (show¬dQ e[i].op<1 by omega),W7,av (show dQ e[i].op<2 by omega)];rfl),F⟩
  refine aB F F (aA (aK F) (ak rG)) (aB F F (c_ K2 F F (aJ h8) F) (aB F F (bj cp F bl F F) (aB F F (bn 1 dS F F F F) (aB F F (aK F) ?_))))
  have IZ:=(eo (base:=w) (O:=[CU m,eJ]) fun w1 hI=>haveI:=ey hI;haveI:=ey hI;JF (by omega) w1 hI.mq (fr&&decide (e[i].op=4∨e[i].op=5)))
  refine iv F F F (fh IZ F F ?_)
  clear IZ
  rintro vr O' ⟨N,rfl,rfl,rfl⟩
  refine aB F F (b_ F F) (ad (cg F F) (aj F (ae (aN (az ?_)))))
  refine aT (.bool (mh e f e[i].b.toNat (fr&&decide (e[i].op=4∨e[i].op=5)))) Tryz.results90 F ?_
  exact⟨[],Sub.z,ax Value.bool (by rw[iC hi,ay Yo,ak (show¬dQ e[i].op<1 by omega),W7,ak (show¬dQ e[i].op<2 by omega)];rfl),F⟩
 refine ad (aA (aK F) (Bool.eq_false_iff.2 W7)) (aS F F (aS F F (aS F F (aS F F (aS F F (aS F F (aS F F ?_)))))))
 refine aS F F (aS F F (ad (b_ F F) (aj F (ae (aN (az ?_))))))
 refine aT (.bool false) Tryz.results90 F ?_
 exact⟨[],Sub.z,ax Value.bool (by rw[iC hi,ay Yo,ak (show¬dQ e[i].op<1 by omega),Bool.eq_false_iff.2 W7];rfl),F⟩
def K3 (e:List eE):Prop:= ∀i (h:i<e.length),(1≤dQ e[i].op→ ∃j:Nat,e[i].a=(j:Int)∧j<i)∧(2≤dQ e[i].op→ ∃j:Nat,e[i].b=(j:Int)∧j<i)
set_option maxRecDepth 20000 in
theorem SV (w:World) [dB Tryz.prog w] (eb:Option Addr) (ec:Nat) (e:List eE) (hE:Sl w eb (bX e)) (z2 z8:Nat) (h2:Sl w (aD z2) [.slice eb e.length ec]) (h8:Sl w (aD z8) [(.func (.func 90) #[] #[(d_ (aD z2) 0),(d_ (aD z8) 0)])]) (ht:K3 e): ∀(f i:Nat) (hi:i<e.length) (hf:i<f) (fr:Bool),
  cA Tryz.prog 90 [vN i,.bool fr,(d_ (aD z2) 0),(d_ (aD z8) 0)] w fun v N=>v=.bool (mh e f i fr)∧N=[]
 |0,i,hi,hf,fr=>absurd hf (by omega)
 |f+1,i,hi,hf,fr=>Ol w eb ec e hE z2 z8 h2 h8 i f fr hi (fun X9 w1 _ hI g=>by
   obtain⟨j,hj,Fi⟩:=(ht i hi).1 X9
   rw[hj,Int.toNat_natCast]
   exact cQ (first:=[]) (args:=[vN j,.bool g]) (gv:=[(d_ (aD z2) 0),(d_ (aD z8) 0)]) K4 (SV w1 eb ec e (hI.sl hE) z2 z8 (hI.sl h2) (hI.sl h8) ht f j (by omega) (by omega) g)) (fun X9 w1 _ hI g=>by
   obtain⟨j,hj,Fi⟩:=(ht i hi).2 X9
   rw[hj,Int.toNat_natCast]
   exact cQ (first:=[]) (args:=[vN j,.bool g]) (gv:=[(d_ (aD z2) 0),(d_ (aD z8) 0)]) K4 (SV w1 eb ec e (hI.sl hE) z2 z8 (hI.sl h2) (hI.sl h8) ht f j (by omega) (by omega) g))
end Go.Proofs.YtgdbfideeeegmaaGreatDoor


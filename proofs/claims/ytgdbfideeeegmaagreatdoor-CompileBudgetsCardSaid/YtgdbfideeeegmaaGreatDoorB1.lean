/- Contracts of functions of the program, and what they answer. Conditions: those each theorem names. -/
import Derived.Test.YtgdbfideeeegmaaGreatDoorA2
import Derived.Test.YtgdbfideeeegmaaGreatDoorA5
import Derived.Test.YtgdbfideeeegmaaGreatDoorA6
import Derived.Test.YtgdbfideeeegmaaGreatDoorB0
import Derived.RecoverIn
import Derived.RangeFuncLeaves
import Derived.Test.YtgdbfideeeegmaaGreatDoorA3
import Derived.Test.YtgdbfideeeegmaaGreatDoorA1
import Derived.Test.YtgdbfideeeegmaaGreatDoorA9
set_option linter.unusedSectionVars false
set_option linter.unusedSimpArgs false
set_option linter.unusedVariables false
set_option linter.unnecessarySimpa false
set_option maxHeartbeats 8000000
set_option maxRecDepth 20000
namespace Go.Proofs.YtgdbfideeeegmaaGreatDoor
open Go.Lx Go.RowKit _root_.Go.Proofs.Tryz
theorem IX (w:World) [cG Tryz.prog w] (y:dF):
  bI Tryz.prog 71 [y.ag] w fun v N=>v=.bool (lu y)∧N=[]:=by
 refine aw func71 F ntmps71 F ?_
 refine ai (ak F (cH (cs:=y.cl) F F (fun z1=>?_)))
 refine aj F (ae (ai (ad (aN bs F cI F F) (ad (aQ 0 eu F F F F) (ad (aZ F F) ?_)))))
 by_cases h9:((y.op:Nat):Int)=9
 ·refine ad (aq (az F) (decide_eq_true h9)) ?_
  refine aF F F (aF F F (aF F F (ad (bu F F) (aj F (ae (aA (ap ?_)))))))
  refine aE (.bool true) Tryz.results71 F ?_
  exact⟨[],Sub.z,congrArg Value.bool (by unfold lu;rw[decide_eq_true (show y.op=9 by omega),Bool.true_or]),F⟩
 refine ad (aq (az F) (decide_eq_false h9)) (au F F (aN bs F cI F F) (au F F (aQ 0 eu F F F F) (au F F (aZ F F) (ad (bl F F) (aj F (ae (aA (ap ?_))))))))
 refine aE (.bool (decide (((y.op:Nat):Int)=10))) Tryz.results71 F ?_
 exact⟨[],Sub.z,congrArg Value.bool (by unfold lu;rw[decide_eq_false (show¬y.op=9 by omega),Bool.false_or];exact decide_eq_decide.2 (by omega)),F⟩
def IY (ls:List Lf) (w:World) (k:Key) (r:SR):Prop:= ∃(s:St) (l:List CR) (bb cb:Option Addr) (bc cc:Nat),jw ls s∧k=s.key∧s.cf=l.map CR.cf∧r.a=.slice bb s.bh.length bc∧r.b=.slice cb l.length cc∧
 ((∃(c1 c2:Nat) (p:List OB),r.ik=[am bb c1 3 1 (aX s.bh),am cb c2 169 3 (cr l)]++eI 173 p∧ ∀y∈l,kn p y.r)∨(r.ik=[]∧Sl w bb (aX s.bh)∧Sl w cb (cr l)∧ ∀y∈l,Sl w y.r.b (eh y.r.o)))
theorem IY.one {ls:List Lf} {w:World} {k:Key} {r:SR} (h:IY ls w k r):dS r.a=true∧dS r.b=true:=by
 obtain⟨s,l,bb,cb,bc,cc,_,_,_,h1,h2,_⟩:=h
 rw[h1,h2];exact⟨F,F⟩
theorem IY.sl {ls:List Lf} {w w1:World} {ik:List Lx.Item} {bb cb:Option Addr} {bh:List Nat} {l:List CR} (hI:Inv w [] w1) (h:(∃(c1 c2:Nat) (p:List OB),ik=[am bb c1 3 1 (aX bh),am cb c2 169 3 (cr l)]++eI 173 p∧ ∀y∈l,kn p y.r)∨(ik=[]∧Sl w bb (aX bh)∧Sl w cb (cr l)∧ ∀y∈l,Sl w y.r.b (eh y.r.o))) (dZ: ∀it∈ik,it.P w1):Sl w1 bb (aX bh)∧Sl w1 cb (cr l)∧ ∀y∈l,Sl w1 y.r.b (eh y.r.o):=by
 rcases h with⟨c1,c2,p,he,hp⟩|⟨_,h1,h2,h3⟩
 ·refine⟨rowP.sl (dZ (am bb c1 3 1 (aX bh)) (by rw[he];simp)),rowP.sl (dZ (am cb c2 169 3 (cr l)) (by rw[he];simp)),fun y hy=>?_⟩
  rcases hp y hy with h|h
  ·exact rowP.sl (dZ (OB.qG 173 y.r) (by rw[he];exact List.mem_append_right _ (List.mem_map.2 ⟨_,h,F⟩)))
  ·rw[h];exact fun i hi=>absurd hi (by simp[eh])
 ·exact⟨hI.sl h1,hI.sl h2,fun y hy=>hI.sl (h3 y hy)⟩
set_option maxRecDepth 20000 in
theorem Ub (w:World) [cG Tryz.prog w] (ob:Nat) (lb:Option Addr) (lc:Nat) (cv fv:Value) (ls:List Lf) (ks:List LK) (ho:jv w ob lb lc cv fv ls ks) (vs:Nat) (hG:gN ls vs) {K:Nat} (hK:oC ls K) (vw:K<137438953472) (eT:vs≤6) (w1:World) [cG Tryz.prog w1] (hI:Inv w [] w1) (k:Key) (r:SR) (hR:IY ls w k r) (dZ: ∀it∈r.ik,it.P w1):dn Tryz.prog w1 (.func (.func 76) #[(cW (aD ob) 0)] #[]) [.agg #[r.a,r.b]] [] (fun v O'=>v=str k∧O'=[]):=by
 obtain⟨s,l,bb,cb,bc,cc,hs,rfl,Gu,e1,e2,hm⟩:=hR
 obtain⟨hb,hl,AW⟩:=IY.sl (ls:=ls) hI hm dZ
 have hg: ∀y∈l,gW ls y.cf:=fun y hy=>hs.cf _ (by rw[Gu];exact List.mem_map_of_mem hy)
 have FG:l.length≤K:=by
  have:=hK s.cf hs.nd hs.cf;rw[Gu,List.length_map]at this;exact this
 rw[e1,e2]
 refine(bQ (first:=[(cW (aD ob) 0)]) (args:=[(.agg #[.slice bb s.bh.length bc,.slice cb l.length cc])]) (eY:=[]) Uc (TZ w1 (cW (aD ob) 0) bb bc s.bh hb (by have:=hs.bh.len;have:=hG.len;omega) (hs.bh.num hG) cb cc l hl (by omega) hG hg (fun y hy=>by
  have:=hG.len
  rcases hg y hy with⟨_,_,h⟩|⟨q,_,hq,_,h⟩
  ·have:=h.len;show y.cf.o.length≤12;omega
  ·have:=h.len;show y.cf.o.length≤12;omega) AW)).mono ?_
 rintro v O' ⟨rfl,rfl⟩
 rw[←Gu];exact⟨F,F⟩
set_option maxRecDepth 20000 in
theorem Ud (w:World) [cG Tryz.prog w] (ob:Nat) (lb:Option Addr) (lc:Nat) (cv fv:Value) (ls:List Lf) (ks:List LK) (ho:jv w ob lb lc cv fv ls ks) (vs:Nat) (hG:gN ls vs) {K:Nat} (hK:oC ls K) (vw:K<137438953472) (eT:vs≤6) (w1:World) [cG Tryz.prog w1] (hI:Inv w [] w1) (k:Key) (r:SR) (hR:IY ls w k r) (dZ: ∀it∈r.ik,it.P w1):dn Tryz.prog w1 (.func (.func 78) #[(cW (aD ob) 0)] #[]) [.agg #[r.a,r.b]] [] (fun v O'=>v=.bool (FH (jw ls) St.key ql k)∧O'=[]):=by
 obtain⟨s,l,bb,cb,bc,cc,hs,rfl,Gu,e1,e2,hm⟩:=hR
 obtain⟨hb,hl,AW⟩:=IY.sl (ls:=ls) hI hm dZ
 have hg: ∀y∈l,gW ls y.cf:=fun y hy=>hs.cf _ (by rw[Gu];exact List.mem_map_of_mem hy)
 have FG:l.length≤K:=by
  have:=hK s.cf hs.nd hs.cf;rw[Gu,List.length_map]at this;exact this
 rw[e1,e2]
 rw[yC (Eb hG) hs]
 refine(bQ (first:=[(cW (aD ob) 0)]) (args:=[(.agg #[.slice bb s.bh.length bc,.slice cb l.length cc])]) (eY:=[]) Ue (LZ w1 (cW (aD ob) 0) s.bh (.slice bb s.bh.length bc) cb cc l hl (by omega))).mono ?_
 rintro v O' ⟨rfl,rfl⟩
 rw[←Gu];exact⟨F,F⟩
set_option maxRecDepth 20000 in
theorem Uf (w:World) [cG Tryz.prog w] (ob:Nat) (lb:Option Addr) (lc:Nat) (cv fv:Value) (ls:List Lf) (ks:List LK) (ho:jv w ob lb lc cv fv ls ks) (vs:Nat) (hG:gN ls vs) {K:Nat} (hK:oC ls K) (vw:K<137438953472) (eT:vs≤6) (w1:World) [cG Tryz.prog w1] (hI:Inv w [] w1) (k:Key) (r:SR) (hR:IY ls w k r) (dZ: ∀it∈r.ik,it.P w1) (x:Nat) (hx:x<2^vs):dn Tryz.prog w1 (.func (.func 77) #[(cW (aD ob) 0)] #[]) [.agg #[r.a,r.b],.int .u8 (x:Int)] [] (fun v N=> ∃r',v=.agg #[r'.a,r'.b]∧N=r'.ik∧IY ls w (zj (jw ls) St.key (li ls) k x) r'):=by
 obtain⟨s,l,bb,cb,bc,cc,hs,rfl,Gu,e1,e2,hm⟩:=hR
 obtain⟨hb,hl,AW⟩:=IY.sl (ls:=ls) hI hm dZ
 have hg: ∀y∈l,gW ls y.cf:=fun y hy=>hs.cf _ (by rw[Gu];exact List.mem_map_of_mem hy)
 have FG:l.length≤K:=by
  have:=hK s.cf hs.nd hs.cf;rw[Gu,List.length_map]at this;exact this
 rw[e1,e2]
 refine(bQ (first:=[(cW (aD ob) 0)]) (args:=[(.agg #[.slice bb s.bh.length bc,.slice cb l.length cc]),.int .u8 (x:Int)]) (eY:=[]) Ug (Qg w1 ob lb lc cv fv ls ks (hI.out ho) vs hG hK (by omega) x hx eT s.bh bb bc hb hs.bh l cb cc hl hg (by rw[←Gu];exact hs.nd) AW)).mono ?_
 rintro v O' ⟨b1,b2,b3,c1,c2,l2,p,rfl,rfl,h1,h2⟩
 refine⟨⟨.slice b1 (ky ls s.bh x).length b2,.slice c1 l2.length c2,_⟩,F,F,li ls s x,l2,b1,c1,b2,c2,pr hG hs hx,sw (Eb hG) hs hx,?_,F,F,.inl ⟨_,_,p,F,h2.IJ⟩⟩
 rw[h1,←Gu];rfl
theorem FV (w:World) [cG Tryz.prog w] (cb:Nat) (eb:Option Addr) (en ec vs B:Nat) (dz:Sl w (aD cb) [.slice eb en ec,vI (vs:Int),vI (B:Int)]) (eT:vs≤6) (gn:1≤B) (hB:B≤4096) (e:List dF) (hE:Sl w eb (bg e)) (iA:en=e.length) (MJ:0<e.length) (CX:e.length≤64) (t:Rx) (Gv:BW e t (e.length-1)) (D6:PM cb eb en ec vs B e) (OZ:e.any lu=false) (AW:t.plain=true):
  cB Tryz.prog w (.iface 163 (.agg #[])) 46 [(cW (aD cb) 0)] [] (fun v N=> ∃M k',v=dV M k'∧N=[dI 56 4 3 M k']∧eF (vs:Int) B M (gd t)∧iP vs t B) (¬iP vs t B):=by
 refine cJ func46 F ntmps46 F ?_
 subst iA
 refine ai (ak F (aR aY F (fun z1=>?_)))
 refine ae (ai (ah F (ad (aK F) (ad (br iR F fJ F F (ay dz) (by first|omega|(simp;done)|(simp;omega)|(simp_all;done)|(simp_all;omega))) (ad (cd cN F F (ay dz) F) (ad (bS cN F) (ad (a7 (ez F F (by omega)) (v':=vN (e.length-1)) (congrArg (Value.int .i64) (by omega))) (aj F (ae (aB (ai (ah F (ad (aK F) (ad (br iR F fJ F F (ay dz) (by first|omega|(simp;done)|(simp;omega)|(simp_all;done)|(simp_all;omega))) (ad (cd cN F F (ay dz) F) ?_)))))))))))))))
 have oz:=fun(w1:World) (hI:Inv w [oI z1 25 [(vI 0),(vI 0),nS,nS]] w1)=>(haveI:=di hI;(show bI _ _ _ _ (fun v N=>v=Value.bool false∧N=[])from by
   have h9:=nE w1 eb ec e (hI.sl hE) (by omega) ((.func (.func 71) #[] #[])) lu (fun y hy=>bQ (first:=[]) (args:=[y.ag]) (eY:=[]) NP (IX w1 y))
   rw[OZ]at h9
   exact h9))
 refine ak F (aP NQ (aI oz) F ?_)
 clear oz
 rintro vr O' ⟨N,rfl,rfl,rfl⟩
 refine ad (gy F) (ae ?_)
 refine bj F ?_
 refine ai (ah F (ah F ?_))
 have Ir:=fun(w1:World) (hI:Inv w [oI z1 25 [(vI 0),(vI 0),nS,nS]] w1)=>(haveI:=di hI;ig D6 eT gn hB F t AW (e.length-1) Gv w1 (hI.sl dz) (hI.sl hE))
 refine de F (dA nD (cB.pure Ir) F (fun z _=>⟨F,z⟩) ?_)
 clear Ir
 rintro vr O' ⟨N,rfl,M,kr,rfl,rfl,hM,hO⟩
 refine ak F (a8 (vs:=(dC M kr)) 1 aY F F F F ?_)
 refine ae (aA (ap ?_))
 refine bL (i:=1) Tryz.results46 bW F aY F F F ?_
 exact⟨[dI 56 4 3 M kr],(by exact Sub.k .z),M,kr,F,F,hM,hO⟩
theorem IZ (w:World) [cG Tryz.prog w] (cb:Nat) (eb:Option Addr) (en ec vs B:Nat) (dz:Sl w (aD cb) [.slice eb en ec,vI (vs:Int),vI (B:Int)]) (eT:vs≤6) (gn:1≤B) (hB:B≤4096) (e:List dF) (hE:Sl w eb (bg e)) (iA:en=e.length) (MJ:0<e.length) (CX:e.length≤64) (t:Rx) (Gv:BW e t (e.length-1)) (yN:Qp cb eb en ec vs B e) (OZ:e.any lu=true) (hw:t.wf=true) (Uh:t.lv≤12) {K:Nat} (Ui:K<137438953472) (hG0:okB vs t B→gN (lD vs t) vs) (vw:okB vs t B→oC (lD vs t) K):
  cB Tryz.prog w (.iface 163 (.agg #[])) 46 [(cW (aD cb) 0)] [] (fun v N=> ∃M k',v=dV M k'∧N=[dI 56 4 3 M k']∧eF (vs:Int) B M (Vu vs t)∧Uj vs t B) (¬Uj vs t B):=by
 refine cJ func46 F ntmps46 F ?_
 subst iA
 have Kl:t.lv≤12:=Uh
 have Cb:=eU vs t []
 have M4:=dR vs t []
 simp only[List.length_nil,Nat.zero_add]at Cb M4
 have Uk:(2:Nat)^vs≤64:=Nat.pow_le_pow_right (by decide) eT
 refine ai (ak F (aR aY F (fun z1=>?_)))
 refine ae (ai (ah F (ad (aK F) (ad (br iR F fJ F F (ay dz) (by first|omega|(simp;done)|(simp;omega)|(simp_all;done)|(simp_all;omega))) (ad (cd cN F F (ay dz) F) (ad (bS cN F) (ad (a7 (ez F F (by omega)) (v':=vN (e.length-1)) (congrArg (Value.int .i64) (by omega))) (aj F (ae (aB (ai (ah F (ad (aK F) (ad (br iR F fJ F F (ay dz) (by first|omega|(simp;done)|(simp;omega)|(simp_all;done)|(simp_all;omega))) (ad (cd cN F F (ay dz) F) ?_)))))))))))))))
 let eQ:Lx.Item:=oI z1 25 [(vI 0),(vI 0),nS,nS]
 have oz:=fun(w1:World) (hI:Inv w [eQ] w1)=>(haveI:=di hI;(show bI _ _ _ _ (fun v N=>v=Value.bool true∧N=[])from by
   have h9:=nE w1 eb ec e (hI.sl hE) (by omega) ((.func (.func 71) #[] #[])) lu (fun y hy=>bQ (first:=[]) (args:=[y.ag]) (eY:=[]) NP (IX w1 y))
   rw[OZ]at h9
   exact h9))
 refine ak F (aP NQ (aI oz) F ?_)
 clear oz
 rintro vr O' ⟨N,rfl,rfl,rfl⟩
 refine ad (gy F) (ae (aL F (av (ai (ah F (ad (bG (cs:=[(cW (aD cb) 0),nS,nS]) L2 Qq (by kernel_rfl)) (ak F (cH (cs:=[(cW (aD cb) 0),nS,nS]) F F (fun z2=>?_)))))))))
 refine aj F (ae (aB (T.dJ 118 7 ?_)))
 let il:List Lx.Item:=[oI z2 114 [(cW (aD cb) 0),nS,nS],am none 0 118 7 (cj [] []),eQ]
 refine ck (O':=il++(a_ 3 (dG [] [])++fm 56 4 3 [] [])) (ar [1,0,0] F) ?_
 refine aJ (ah F (ah F ?_))
 have vg:=((vC yN eT gn hB F z2 nS t hw (e.length-1) Gv w dz hE).frame [eQ] (O:=il) none 0 [] [] F (by simp;omega) ⟨0,by simp,by have:=Nat.mul_le_mul Kl Kl;omega⟩ (by exact Sub.rf))
 refine de F (dA A3 vg F (fun z _=>⟨F,fun h9=>z h9.1⟩) ?_)
 clear vg
 rintro vr O' ⟨lb,lc,ks,fb,fc,xb,xc,rfl,rfl,lV,FM⟩
 let jj:Value:=(.slice fb ((aH vs t []).fi.length) fc)
 refine ah F (ad (aV (vs:=_) F F) (ad (aV (vs:=_) F F) (aj F (aj F (ae (ai (ah F (ah F (ad (aK F) (ad (aN e8 F bV F F) (ak F (a8 (vs:=[jj]) 0 bV F F F F ?_))))))))))))
 refine ae (aB (ai (ah F (ad (bS bK F) (ah F (ae (aG ?_)))))))
 let Cr:Lx.Item:=am fb fc 3 1 (aX ((aH vs t []).fi))
 let Al:Lx.Item:=am xb xc 3 1 (aX ((aH vs t []).la))
 refine ck (O':=[oI z2 114 [(cW (aD cb) 0),(.slice lb (((aH vs t []).ls).length) lc),jj],am lb lc 118 7 (cj ((aH vs t []).ls) ks),Cr,Al,eQ]++(a_ 3 (dG ((aH vs t []).ls) ks)++fm 56 4 3 ((aH vs t []).ls) ks)) (by exact Sub.rf) ?_
 let iL:Value:=(.pointer (aD z2))
 refine cM (fun(i9:Nat) ρ O=> ∃(l3:List Lf),O=([oI z2 114 [(cW (aD cb) 0),(.slice lb l3.length lc),jj],am lb lc 118 7 (cj l3 ks),Cr,Al,eQ]++(a_ 3 (dG l3 ks)++fm 56 4 3 l3 ks))∧i9≤(aH vs t []).la.length∧l3=nH (aH vs t []).ls ((aH vs t []).la.take i9)∧ks.length=l3.length∧cw [(0,(cW (aD cb) 0)),(2,(.pointer (aD z1))),(3,vN (e.length-1)),(4,iL),(5,jj),(6,(.slice xb ((aH vs t []).la.length) xc)),(26,iL),(37,(.slice xb ((aH vs t []).la.length) xc)),(38,vI ((aH vs t []).la.length:Int)),(39,vN i9)] ρ) (fun i9=>(aH vs t []).la.length-i9) 0 ?_ ?_
 ·exact⟨(aH vs t []).ls,F,Nat.zero_le _,F,lV,(.of F)⟩
 rintro i9 ρ O ⟨l3,rfl,GW,Kk,rm,hH⟩
 obtain⟨fE,rfl⟩:=hH.elim
 clear hH
 refine ai (ad (bT F F) (ae (aB (aC F (fun hc=>?_) (fun hc=>?_)))))
 ·have tp:i9<(aH vs t []).la.length:=by omega
  obtain⟨kk,CT⟩: ∃k,k=(aH vs t []).la[i9]:=⟨_,F⟩
  have xD:kk<l3.length:=by
   have:=(Cb.2.1 _ (List.getElem_mem tp)).2
   rw[Kk,sE,M4,CT];exact this
  refine av (aB (aG (ai (ad (cV (i:=i9) bK aO F F (cP (mG 3 F)) tp (by rw[List.length_map];exact tp)) (ad (cd cS F F (cP (mG 3 F)) (show(aX (aH vs t []).la)[i9]? =some (vN kk) by rw[CT];exact fO tp)) (aj F (ae (aJ (ah F (ad (aK F) (ad (aN e8 F fe F F) (ad (aQ 0 d_ F F F F) (ah F (ad (cY (i:=kk) d_ dN F F (cP (mG 1 F)) xD (by rw[cU rm];omega)) (ad (br fX F dU F F (cP (mG 1 F)) (by rw[cU rm];omega)) (ak F (lB (j:=(kk*7+6)) (v:=.bool true) (vs:=[(.bool true)]) (cs:=cj l3 ks) 1 dU F F F F F (by simp) F (by rw[cU rm];simp;omega) ?_)))))))))))))))))
  let pN:Value:=(.slice fb ((aH vs t []).fi.length) fc)
  let yj:Lx.Item:=am fb fc 3 1 (aX ((aH vs t []).fi))
  let ox:Lx.Item:=am xb xc 3 1 (aX ((aH vs t []).la))
  refine cQ (O':=([oI z2 114 [(cW (aD cb) 0),(.slice lb l3.length lc),pN],am lb lc 118 7 (cj (l3.set kk {lf l3 kk with la:=true}) ks),yj,ox,eQ]++(a_ 3 (dG l3 ks)++fm 56 4 3 l3 ks))) (by rw[show dK (cj l3 ks) (kk*7+6) [(.bool true)]=cj (l3.set kk {lf l3 kk with la:=true}) ks from(by rw[A7 rm xD];simp[dK])];exact bn (List.Sublist.refl _)) ?_
  refine ae (aJ (ad (cx (a:=i9) (b:=1) F F (by omega)) (ah F (ae ?_))))
  exact⟨i9+1,by omega,[oI z2 114 [(cW (aD cb) 0),(.slice lb ((l3.set kk {lf l3 kk with la:=true}).length) lc),pN],am lb lc 118 7 (cj (l3.set kk {lf l3 kk with la:=true}) ks),yj,ox,eQ]++(a_ 3 (dG (l3.set kk {lf l3 kk with la:=true}) ks)++fm 56 4 3 (l3.set kk {lf l3 kk with la:=true}) ks),by
   rw[CY rm xD,FW rm xD,List.length_set]
   exact Sub.rf,(l3.set kk {lf l3 kk with la:=true}),F,by omega,by rw[CZ tp,←CT,←Kk],by rw[List.length_set];exact rm,(.of F)⟩
 have Ij: ¬i9<(aH vs t []).la.length:=by omega
 refine bJ ?_
 refine aB ?_
 have e3:l3=lD vs t:=by rw[Kk,List.take_of_length_le (by omega)];rfl
 have hG:=hG0 FM
 have hK:=vw FM
 rw[←e3]at hG hK
 have pP:(aH vs t []).fi.length≤1000000:=by have:=Cb.2.2.1;omega
 have Ul: ∀k∈(aH vs t []).fi,k<l3.length:=fun k hk=>by rw[e3];exact Ec k hk
 refine aJ (ah F (ah F ?_))
 let mM:Value:=(.slice fb ((aH vs t []).fi.length) fc)
 let pj:Lx.Item:=oI z2 114 [(cW (aD cb) 0),(.slice lb l3.length lc),mM]
 let sj:Lx.Item:=am fb fc 3 1 (aX ((aH vs t []).fi))
 let qk:Lx.Item:=am xb xc 3 1 (aX ((aH vs t []).la))
 have Um:=fun(w1:World) (hI:Inv w ([pj,am lb lc 118 7 (cj l3 ks),sj,qk,eQ]++(a_ 3 (dG l3 ks)++fm 56 4 3 l3 ks)) w1)=>(haveI:=di hI;LW w1 z2 lb lc (cW (aD cb) 0) (.slice fb ((aH vs t []).fi.length) fc) l3 ks (jv.of (II:=56) (Bo:=4) (I:=3) hI rm (mG 0 F) (mG 1 F) (fun it h=>List.mem_append_right _ (List.mem_append_left _ h)) (fun it h=>List.mem_append_right _ (List.mem_append_right _ h))) vs hG hK (by omega) (aH vs t []).fi fb fc F (hI.fV (mG 2 F)) Ul pP)
 refine ak F (aP Un (aI Um) F ?_)
 clear Um
 rintro vr O' ⟨N,rfl,bb,bc,kv,gb,gc,l,p,rfl,rfl,Uo,hS⟩
 refine cQ (O':=([am bb kv 3 1 (aX (l3.map fun l=>l.d.start.toNat)),am gb gc 169 3 (cr l),pj,am lb lc 118 7 (cj l3 ks),sj,qk,eQ]++((eI 173 p)++(a_ 3 (dG l3 ks)++fm 56 4 3 l3 ks)))) (by exact eg [am bb kv 3 1 (aX (l3.map fun l=>l.d.start.toNat)),am gb gc 169 3 (cr l)] _ (eI 173 p) (a_ 3 (dG l3 ks)++fm 56 4 3 l3 ks)) ?_
 refine ah F (ad (dQ) (ah F (ad (dQ) (ah F (ad (dQ) ?_)))))
 have HH:=fun(w1:World) (hI:Inv w ([am bb kv 3 1 (aX (l3.map fun l=>l.d.start.toNat)),am gb gc 169 3 (cr l),oI z2 114 [(cW (aD cb) 0),(.slice lb l3.length lc),mM],am lb lc 118 7 (cj l3 ks),am fb fc 3 1 (aX ((aH vs t []).fi)),am xb xc 3 1 (aX ((aH vs t []).la)),eQ]++((eI 173 p)++(a_ 3 (dG l3 ks)++fm 56 4 3 l3 ks))) w1)=>(haveI:=di hI;Cx w1 cb eb _ ec vs B (2^vs) (hI.sl dz) eT F gn hB (zj (jw l3) St.key (li l3)) (FH (jw l3) St.key ql) (jU l3 (aH vs t []).fi).key (IY l3 w1) ⟨.slice bb (l3.map fun l=>l.d.start.toNat).length bc,.slice gb l.length gc,[]⟩ (.func (.func 76) #[iL] #[]) (.func (.func 77) #[iL] #[]) (.func (.func 78) #[iL] #[]) ⟨(jU l3 (aH vs t []).fi),l,bb,gb,bc,gc,vE hG Ul,F,(by rw[Uo];rfl),F,F,.inr ⟨F,hI.fV (mG 0 F),hI.fV (mG 1 F),fun y hy=>kn.sl (T:=173) hI (fun it h=>List.mem_append_right _ (List.mem_append_left _ h)) (hS.IJ y hy)⟩⟩ F (fun k r h=>h.one) (fun w2 k r nw hR dZ=>haveI:=di nw;Ub w1 z2 lb lc (cW (aD cb) 0) mM l3 ks (jv.of (II:=56) (Bo:=4) (I:=3) hI rm (mG 2 F) (mG 3 F) (fun it h=>List.mem_append_right _ (List.mem_append_right _ (List.mem_append_left _ h))) (fun it h=>List.mem_append_right _ (List.mem_append_right _ (List.mem_append_right _ h)))) vs hG hK Ui eT w2 nw k r hR dZ) (fun w2 k r x nw hR dZ hx=>haveI:=di nw;Uf w1 z2 lb lc (cW (aD cb) 0) mM l3 ks (jv.of (II:=56) (Bo:=4) (I:=3) hI rm (mG 2 F) (mG 3 F) (fun it h=>List.mem_append_right _ (List.mem_append_right _ (List.mem_append_left _ h))) (fun it h=>List.mem_append_right _ (List.mem_append_right _ (List.mem_append_right _ h)))) vs hG hK Ui eT w2 nw k r hR dZ x hx) (fun w2 k r nw hR dZ=>haveI:=di nw;Ud w1 z2 lb lc (cW (aD cb) 0) mM l3 ks (jv.of (II:=56) (Bo:=4) (I:=3) hI rm (mG 2 F) (mG 3 F) (fun it h=>List.mem_append_right _ (List.mem_append_right _ (List.mem_append_left _ h))) (fun it h=>List.mem_append_right _ (List.mem_append_right _ (List.mem_append_right _ h)))) vs hG hK Ui eT w2 nw k r hR dZ))
 refine de F (dA Up (cB.pure HH) F (fun z _=>⟨F,fun h9=>z (by have:=h9.2;unfold O9 at this;rw[←e3]at this;exact this)⟩) ?_)
 clear HH
 rintro vr O' ⟨N,rfl,M,k9,rfl,rfl,hM,H_⟩
 refine ak F (a8 (vs:=(dC M k9)) 7 aY F F F F ?_)
 refine ae (aA (ap ?_))
 refine bL (i:=7) Tryz.results46 bW F aY F F F ?_
 subst e3
 exact⟨[dI 56 4 3 M k9],(by exact Sub.k .z),M,k9,F,F,hM.to fun u hu=>I0 hG (fun x hx=>by simpa using hu x hx),FM,H_⟩
end Go.Proofs.YtgdbfideeeegmaaGreatDoor

namespace Go.Lx
open Go.RowKit
section
variable {P:Program} {base:World} {n:Nat} {ops:Array Oper} {ds:List Deferred} {M:List Item} {Qf:Exit→Act→World→Prop} {ρ:Env} {O:List Item} {l:List Oper}
def TG (P:Program) (base:World) (n:Nat) (ops:Array Oper) (ds:List Deferred) (M:List Item) (Qf:Exit→Act→World→Prop) (l:List Oper) (ρ:Env) (O:List Item):Prop:=
 ∀a w,Ag n ds a ρ→Inv base (O++M) w→wpListIn (Fr none) 0 P ops Qf l a w
theorem TG.region {id:Nat} {l:List Oper} {a:Act} {w:World} (h:TG P base n l.toArray ds M Qf l ρ O) (ha:Ag n ds a ρ) (hI:Inv base (O++M) w):(Code.region id l.toArray false).wpIn (Fr none) 0 P Qf a w:=wpIn_region_lit (h a w ha hI)
theorem TG.nil (h: ∀a w,Ag n ds a ρ→Inv base (O++M) w→Qf .normal a w):TG P base n ops ds M Qf [] ρ O:=fun a w ha hI=>wpListIn_nil (h a w ha hI)
theorem fh {o:Oper} (hg:o.guard=none) (h:LT P none base n o ρ O (fun fB O'=>TG P base n ops ds M Qf l fB O')):TG P base n ops ds M Qf (o::l) ρ O:=
 fun a w ha hI=>wpListIn_plain hg fun next dT=>h a w M ds ha hI next _ fun a' _ _ w' h1 h2 h3=>dT a' w' (h3 a' w' h1 h2)
theorem c7 {d:Nat} {op:Op} {t:TypeId} {p:String} {af:Array Edge} {v:Value} (h:QT P base ⟨some d,op,t,p,af,none⟩ ρ O v) (hk:TG P base n ops ds M Qf l (mS ρ d v) O) (hn:Nat.blt d n=true:=by rfl):TG P base n ops ds M Qf (⟨some d,op,t,p,af,none⟩::l) ρ O:=
 fh F (dw F hn h hk)
theorem TG.defer {t:TypeId} {p:String} {af:Array Edge} {ws:Array TypeId} {x:Operand} {f:FuncId} {eY:Array Value} (hx:ev ρ x=.func (.func f) #[] eY)
  (hk:TG P base n ops ({target:=.fn (.func f) eY,args:= #[]}::ds) M Qf l ρ O):TG P base n ops ds M Qf (⟨none,.defer ⟨.value x,#[],ws⟩,t,p,af,none⟩::l) ρ O:=fun a w ha hI=>
 wpListIn_plain F fun next dT=>by
  refine⟨fun _ _=>trivial,?_⟩
  have hr:(Oper.semAt (Fr none).round a.eval ⟨none,.defer ⟨.value x,#[],ws⟩,t,p,af,none⟩).run P w=.ok (.defer {target:=.fn (.func f) eY,args:= #[]}) w:=by
   rw[ha.eval]
   rw[show(Fr none).round=none from F,Oper.semAt_none]
   simp[execOp,resolve,Deferred.ofValue,hx]
  rw[hr,Oper.uponIn_defer]
  refine dT _ _ (hk _ _ ⟨fun t=>?_,?_,?_⟩ hI)
  ·exact ha.tmp t
  ·exact ha.size
  ·show _::a.defers=_;rw[ha.defers]
theorem kK {o:Oper} {j tj:Nat} {want:Bool} (hg:o.guard=some (j,want)) (hj:(ops[j]?).bind (·.dst)=some tj) (hw:ρ tj=.bool want)
  (h:LT P none base n o ρ O (fun fB O'=>TG P base n ops ds M Qf l fB O')):TG P base n ops ds M Qf (o::l) ρ O:=by
 intro a w ha hi
 refine wpListIn_step fun next dT=>?_
 have hy:=g_ (ops:=ops) ha hj
 rw[hw]at hy
 have nZ:Region.wanted o (yielded ops a.tmps)=true:=by unfold Region.wanted;rw[hg];simp[hy,J_]
 rw[if_pos nZ]
 exact h a w M ds ha hi next _ fun a' _ _ w' h1 h2 h3=>dT a' w' (h3 a' w' h1 h2)
theorem tB {d:Nat} {op:Op} {t:TypeId} {p:String} {af:Array Edge} {j tj:Nat} {want:Bool} (hj:(ops[j]?).bind (·.dst)=some tj) (hw:(J_ (ρ tj)==some want)=false) (hk:TG P base n ops ds M Qf l (mS ρ d undef) O) (hn:Nat.blt d n=true:=by rfl):
  TG P base n ops ds M Qf (⟨some d,op,t,p,af,some (j,want)⟩::l) ρ O:=by
 intro a w ha hi
 refine wpListIn_step fun next dT=>?_
 have hy:=g_ (ops:=ops) ha hj
 have nZ:Region.wanted ⟨some d,op,t,p,af,some (j,want)⟩ (yielded ops a.tmps)=false:=by unfold Region.wanted;simp only[hy];exact hw
 rw[nZ]
 exact⟨fun _ _=>trivial,dT _ _ (hk _ _ (ha.put hn undef) hi)⟩
theorem C2 {d:Nat} {t:TypeId} {p:String} {af:Array Edge} {f:FuncId} {fn:Func} {tm:Value} {args:List Operand} {ws:Array TypeId} {vs:List Value} {R:Value→List Item→Prop} {Z:Prop} (he:Enters P f fn)
  (hc: ∀w,Inv base (O++M) w→cB P w tm f vs [] R Z) (ha:E_ ρ args=vs) (hz: ∀a w,Ag n ds a ρ→Inv base (O++M) w→Z→Qf (.panic [{v:=tm,recovered:=false}]) a w) (h: ∀v N,R v N→TG P base n ops ds M Qf l (mS ρ d v) (N++O)) (hn:Nat.blt d n=true:=by rfl):
  TG P base n ops ds M Qf (⟨some d,.call ⟨.value (.func f),args.toArray,ws⟩,t,p,af,none⟩::l) ρ O:=by
 subst ha
 intro a w ha hi
 refine wpListIn_plain F fun next dT=>?_
 have qU: ¬fn.name= "runtime.NumGoroutine" :=by simpa using he.2.1
 obtain⟨bd,G5⟩:=Option.isSome_iff_exists.1 he.2.2
 have hr:(execOp a.eval ⟨some d,.call ⟨.value (.func f),args.toArray,ws⟩,t,p,af,none⟩).run P w=.ok (.enter f (E_ ρ args).toArray) w:=by
  rw[ha.eval,qg]
  simp[jq,ev,Deferred.ofValue,invoke,callFunc,he.1,qU,G5]
 refine jX (by intro c e;cases e) ?_
 rw[hr,Oper.uponIn_enter]
 refine⟨fun e=>by simp[Fr,Fence.wide]at e,kZ (Calls.mono (hc w hi w [] (Inv.refl w)) ?_)⟩
 rintro e w' (⟨v,O',rfl,l6,hR⟩|⟨rfl,l6,hZ⟩)
 ·refine dT _ _ (h v O' hR _ _ (ha.put hn v) ?_)
  have:=hi.call l6
  simpa[List.append_assoc]using this
 ·refine hz _ _ ha ?_ hZ
  have:=hi.call l6
  simpa using this
end
end Go.Lx

namespace Go.Proofs.YtgdbfideeeegmaaGreatDoor
open Go.Lx Go.RowKit _root_.Go.Proofs.Tryz
theorem L7 (w:World) (p q:Addr):CallsDIn Fence.wide 0 Tryz.prog 45 #[.pointer (some p),.pointer (some q)] .returning w fun e u' w'=>e=.returned (.tuple #[])∧u'=.returning∧w'=w:=by
 refine callsDIn_of_wpSIn func45 F trivial fun Q5 cs hu=>?_
 apply wpSIn_seq
 apply wpSIn_region
 simp[wpOpsSIn,go_sem,recoverD,hu,ntmps45,Exit.thenS,Fence.wide]
 apply wpSIn_seq
 apply wpSIn_region
 simp[wpOpsSIn,go_sem,hu,Exit.thenS]
 refine wpSIn_cond (t:=false) (by simp[Act.eval,Array.replicate]) ?_
 simp only[Bool.false_eq_true,if_false]
 refine wpSIn_of_wpIn F (wpIn_skip ?_)
 cases Q5
 simp_all[bodyPostS,results,Tryz.results45]
def zD:List Value:=[.int .i64 0,.int .i64 0,.slice none 0 0,.slice none 0 0]
set_option maxRecDepth 20000 in
theorem Ja (base:World) (z6 z7:Nat) (M:List Lx.Item) (w:World) (T0:TypeId) (x:Value) (hI:Inv base ([oI z6 25 zD,oI z7 27 [.int .i64 0]]++M) w):
  CallsDIn Fence.wide 0 Tryz.prog 45 #[.pointer (some ⟨z6,0,none⟩),.pointer (some ⟨z7,0,none⟩)] (.panicking [{v:=.iface T0 x,recovered:=false}]) w fun e u' w'=>
   e=.returned (.tuple #[])∧u'=.panicking [{v:=.iface T0 x,recovered:=true}]∧Inv base ([oI z6 25 zD,oI z7 27 [.int .i64 10]]++M) w':=by
 refine callsDIn_of_wpSIn func45 F trivial fun Q5 cs hu=>?_
 apply wpSIn_seq
 apply wpSIn_region
 simp[wpOpsSIn,go_sem,recoverD,hu,ntmps45,Exit.thenS,Fence.wide]
 apply wpSIn_seq
 apply wpSIn_region
 simp[wpOpsSIn,go_sem,Exit.thenS]
 refine wpSIn_cond (t:=true) (by simp[Act.eval,Array.replicate]) ?_
 simp only[if_true]
 refine wpSIn_of_wpIn F ?_
 refine TG.region (base:=base) (n:=7) (ds:=[]) (M:=M) (ρ:=fun t=>Array.getD _ t undef) (O:=[oI z6 25 zD,oI z7 27 [.int .i64 0]]) ?_ ⟨fun t=>rfl,by simp,F⟩ hI
 refine c7 (bG (cs:=zD) gD aY (by kernel_rfl)) ?_
 refine fh F (sf (v:=.agg zD.toArray) (vs:=zD) 0 aY F F F F F F (by simp) ?_)
 refine fh F (sf (v:=.int .i64 10) (vs:=[.int .i64 10]) 1 gB F F F F F F (by simp) ?_)
 refine TG.nil fun a w' ha l6=>?_
 have hd:=ha.defers
 cases Q5
 simp_all[bodyPostS,results,Tryz.results45]
 exact l6
end Go.Proofs.YtgdbfideeeegmaaGreatDoor

namespace Go.Proofs.YtgdbfideeeegmaaGreatDoor
open Go.Lx Go.RowKit _root_.Go.Proofs.Tryz
def Xa (E:Nat) (gR:Int) (G:bU→Prop) (Z:Prop) (v:Value) (O':List Lx.Item):Prop:=
 (E≠0∧v=.tuple #[.agg zD.toArray,.int .i64 (E:Int)]∧O'=[])∨(E=0∧ ¬(1≤gR∧gR≤4096)∧v=.tuple #[.agg zD.toArray,.int .i64 1]∧O'=[])∨
 (E=0∧(1≤gR∧gR≤4096)∧((∃M k,v=.tuple #[dV M k,.int .i64 0]∧O'=[dI 56 4 3 M k]∧G M)∨(v=.tuple #[.agg zD.toArray,.int .i64 10]∧O'=[]∧Z)))
abbrev RF (base:World) (M:List Lx.Item) (R:Value→List Lx.Item→Prop):Ending→World→Prop:=fun e KG=> ∃v O',e=.returned v∧Inv base (O'++M) KG∧R v O'
theorem Bc {base w:World} {M O:List Lx.Item} {tmps:Array Value} {ρ:Env} {R:Value→List Lx.Item→Prop} (ht: ∀t,tmps.getD t undef=ρ t) (hI:Inv base (O++M) w) (hr:pD Tryz.prog base Tryz.f19 ρ O R):LeavesInM Fence.wide 0 Tryz.prog Tryz.f19 tmps (RF base M R) [] .returning w:=by
 obtain⟨v,wh,wm,hR,hr⟩:=hr.ex
 exact⟨v,hr w tmps hI.left ht,v,wh,F,hI.iN wm.qR,hR⟩
theorem Zg (z6 z7:Nat) (w:World):(invoke (.fn (.func 45) #[.pointer (some ⟨z6,0,none⟩),.pointer (some ⟨z7,0,none⟩)]) #[]).run Tryz.prog w=.ok (.enter 45 #[.pointer (some ⟨z6,0,none⟩),.pointer (some ⟨z7,0,none⟩)]) w:=by
 have qU: ¬Tryz.f45.name= "runtime.NumGoroutine" :=by simpa using I6.2.1
 obtain⟨bd,G5⟩:=Option.isSome_iff_exists.1 I6.2.2
 simp[invoke,callFunc,I6.1,qU,G5]
theorem NZ (base:World) [cG Tryz.prog base] (eb:Option Addr) (en ec:Nat) (vars:Int) (E:Nat) (gR:Int) (G:bU→Prop) (Z:Prop)
  (Xb: ∀w1 [cG Tryz.prog w1],Inv base [] w1→bI Tryz.prog 28 [.slice eb en ec,.int .i64 vars] w1 fun v N=>v=.int .i64 (E:Int)∧N=[])
  (hC:E=0→1≤gR→gR≤4096→ ∀(w8:World) [cG Tryz.prog w8] (cb:Nat),Inv base [] w8→Sl w8 (some ⟨cb,0,none⟩) [.slice eb en ec,.int .i64 vars,.int .i64 gR]→cB Tryz.prog w8 (.iface 163 (.agg #[])) 46 [cW (some ⟨cb,0,none⟩) 0] [] (fun v N=> ∃M k',v=dV M k'∧N=[dI 56 4 3 M k']∧G M) Z):
  bm Tryz.prog base 19 [.slice eb en ec,.int .i64 vars,.int .i64 gR] [] (Xa E gR G Z):=by
 intro w M hI
 rw[←callsIn_wide (n:=0)]
 refine callsIn_of_wp_marks func19 F trivial ?_
 have ha:Ag 32 [] {tmps:=([.slice eb en ec,.int .i64 vars,.int .i64 gR]:List Value).toArray++Array.replicate (Tryz.f19.ntmps-([.slice eb en ec,.int .i64 vars,.int .i64 gR]:List Value).toArray.size) undef,defers:=[]} (entry [.slice eb en ec,.int .i64 vars,.int .i64 gR]):=by
  rw[ntmps19]
  refine⟨fun t=>?_,by simp,F⟩
  show(_++_:Array Value).getD t undef=List.getD _ t undef
  rw[Array.getD_eq_getD_getElem?,List.getD_eq_getElem?_getD]
  by_cases h:t<3
  ·rw[Array.getElem?_append_left (by simpa using h)];simp
  ·rw[Array.getElem?_append_right (by simpa using h),Array.getElem?_replicate,List.getElem?_eq_none (by simpa using h)]
   split<;>rfl
 refine wpIn_seq ?_
 refine TG.region (O:=[]) ?_ ha hI
 refine fh F (aR aY F (fun z6=>?_))
 refine fh F (aR gB F (fun z7=>?_))
 refine TG.nil fun a w ha hI=>?_
 refine wpIn_seq ?_
 refine wpIn_seq ?_
 refine TG.region ?_ ha hI
 refine c7 (az F) (c7 (az F) ?_)
 refine fh F (aP Uz (aI (fun w1 hI=>(haveI:=di hI;Xb w1 hI.kw))) F ?_)
 rintro vr O' ⟨N,rfl,rfl,rfl⟩
 refine c7 (bt F) ?_
 refine TG.nil fun a w ha hI=>?_
 refine wpIn_seq ?_
 refine TG.region ?_ ha hI
 refine c7 (az F) (c7 (cT F F) ?_)
 refine TG.nil fun a w ha hI=>?_
 by_cases hE:E=0
 case neg=>
  refine wpIn_cond (t:=true) (by rw[ha.eval];show Value.bool (decide ((E:Int)≠0))=Value.bool true;rw[decide_eq_true (show(E:Int)≠0 by omega)]) ?_
  simp only[if_true]
  refine wpIn_seq ?_
  refine TG.region ?_ ha hI
  refine c7 (bG (cs:=zD) gD aY (by kernel_rfl)) (c7 (az F) ?_)
  refine fh F (sf (v:=.agg zD.toArray) (vs:=zD) 1 aY F F F F F F (by decide) ?_)
  refine fh F (sf (v:=.int .i64 (E:Int)) (vs:=[.int .i64 (E:Int)]) 0 gB F F F F F F (by simp) ?_)
  refine TG.nil fun a w ha hI=>wpIn_ret ?_
  show LeavesInM _ _ _ _ _ _ a.defers _ w
  rw[ha.defers]
  refine Bc ha.tmp hI (ap ?_)
  refine ga (i:=1) (j:=0) Tryz.results19 bW F aY mr F F F F F F ?_
  exact⟨[],Sub.z,.inl ⟨hE,F,F⟩⟩
 subst hE
 refine wpIn_cond (t:=false) (by rw[ha.eval];rfl) ?_
 simp only[Bool.false_eq_true,if_false]
 refine wpIn_skip ?_
 refine wpIn_seq ?_
 refine wpIn_seq ?_
 refine TG.region (base:=base) (n:=32) (ds:=[]) (M:=M) (ρ:=fun t=>a.tmps.getD t undef) (O:=[cR z7 (.cells #[.int .i64 0] 27 (0,0)),cR z6 (.cells #[.int .i64 0,.int .i64 0,.slice none 0 0,.slice none 0 0] 25 (0,0))]) ?_ ⟨fun t=>rfl,ha.size,ha.defers⟩ hI
 have h2:a.tmps.getD 2 undef=.int .i64 gR:=by rw[ha.tmp];rfl
 have h0:a.tmps.getD 0 undef=.slice eb en ec:=by rw[ha.tmp];rfl
 have h1:a.tmps.getD 1 undef=.int .i64 vars:=by rw[ha.tmp];rfl
 have h6:a.tmps.getD 6 undef=.pointer (some ⟨z6,0,none⟩):=by rw[ha.tmp];rfl
 have h7:a.tmps.getD 7 undef=.pointer (some ⟨z7,0,none⟩):=by rw[ha.tmp];rfl
 generalize Rt:(fun t=>a.tmps.getD t undef)=ρ
 have r2:ρ 2=.int .i64 gR:=by rw[←Rt];exact h2
 have r0:ρ 0=.slice eb en ec:=by rw[←Rt];exact h0
 have r1:ρ 1=.int .i64 vars:=by rw[←Rt];exact h1
 have r6:ρ 6=.pointer (some ⟨z6,0,none⟩):=by rw[←Rt];exact h6
 have r7:ρ 7=.pointer (some ⟨z7,0,none⟩):=by rw[←Rt];exact h7
 clear h2 h0 h1 h6 h7 Rt
 by_cases Cd:gR<1
 ·refine c7 (az F) (c7 (a7 (bT (a:=gR) (b:=1) r2 F) (v':=.bool true) (by rw[decide_eq_true Cd])) (c7 (az F) ?_))
  refine tB F F (tB F F (c7 (bu F F) ?_))
  refine TG.nil fun a w ha hI=>?_
  refine wpIn_cond (t:=true) (by rw[ha.eval];rfl) ?_
  simp only[if_true]
  refine wpIn_seq ?_
  refine TG.region ?_ ha hI
  refine c7 (bG (cs:=zD) gD aY (by kernel_rfl)) ?_
  refine fh F (sf (v:=.agg zD.toArray) (vs:=zD) 1 aY r6 F F F F F (by decide) ?_)
  refine fh F (sf (v:=.int .i64 1) (vs:=[.int .i64 1]) 0 gB r7 F F F F F (by decide) ?_)
  refine TG.nil fun a w ha hI=>wpIn_ret ?_
  show LeavesInM _ _ _ _ _ _ a.defers _ w
  rw[ha.defers]
  refine Bc ha.tmp hI (ap ?_)
  refine ga (i:=1) (j:=0) Tryz.results19 bW F aY mr F r6 r7 F F F ?_
  exact⟨[],Sub.z,.inr (.inl ⟨F,by omega,F,F⟩)⟩
 ·refine c7 (az F) (c7 (a7 (bT (a:=gR) (b:=1) r2 F) (v':=.bool false) (by rw[decide_eq_false Cd])) (c7 (az F) ?_))
  by_cases zM:4096<gR
  ·refine kK F F F (dw F F (az F) ?_)
   refine kK F F F (dw F F (a7 (fW (a:=gR) (b:=4096) r2 F) (v':=.bool true) (by rw[decide_eq_true zM])) ?_)
   refine c7 (bl F F) ?_
   refine TG.nil fun a w ha hI=>?_
   refine wpIn_cond (t:=true) (by rw[ha.eval];rfl) ?_
   simp only[if_true]
   refine wpIn_seq ?_
   refine TG.region ?_ ha hI
   refine c7 (bG (cs:=zD) gD aY (by kernel_rfl)) ?_
   refine fh F (sf (v:=.agg zD.toArray) (vs:=zD) 1 aY r6 F F F F F (by decide) ?_)
   refine fh F (sf (v:=.int .i64 1) (vs:=[.int .i64 1]) 0 gB r7 F F F F F (by decide) ?_)
   refine TG.nil fun a w ha hI=>wpIn_ret ?_
   show LeavesInM _ _ _ _ _ _ a.defers _ w
   rw[ha.defers]
   refine Bc ha.tmp hI (ap ?_)
   refine ga (i:=1) (j:=0) Tryz.results19 bW F aY mr F r6 r7 F F F ?_
   exact⟨[],Sub.z,.inr (.inl ⟨F,by omega,F,F⟩)⟩
  refine kK F F F (dw F F (az F) ?_)
  refine kK F F F (dw F F (a7 (fW (a:=gR) (b:=4096) r2 F) (v':=.bool false) (by rw[decide_eq_false zM])) ?_)
  refine c7 (bl F F) ?_
  refine TG.nil fun a w ha hI=>?_
  refine wpIn_cond (t:=false) (by rw[ha.eval];rfl) ?_
  simp only[Bool.false_eq_true,if_false]
  refine wpIn_skip ?_
  refine wpIn_seq ?_
  refine TG.region ?_ ha hI
  refine c7 (a7 dQ (v':=.func (.func 45) #[] #[.pointer (some ⟨z6,0,none⟩),.pointer (some ⟨z7,0,none⟩)]) (by show Value.func _ #[] #[ρ 6,ρ 7]=_;rw[r6,r7])) ?_
  refine TG.defer (f:=45) (eY:= #[.pointer (some ⟨z6,0,none⟩),.pointer (some ⟨z7,0,none⟩)]) F ?_
  refine TG.nil fun a w ha hI=>?_
  refine wpIn_seq ?_
  refine TG.region ?_ ha hI
  refine c7 (a7 (az F) (v':=.slice eb en ec) r0) (c7 (a7 (az F) (v':=.int .i64 vars) r1) (c7 (a7 (az F) (v':=.int .i64 gR) r2) ?_))
  refine c7 (bG (cs:=[.slice eb en ec,.int .i64 vars,.int .i64 gR]) Qz Ux (by kernel_rfl)) ?_
  refine fh F (cH (v:=.agg #[.slice eb en ec,.int .i64 vars,.int .i64 gR]) (cs:=[.slice eb en ec,.int .i64 vars,.int .i64 gR]) F F (fun zc=>?_))
  refine c7 (bt F) ?_
  refine TG.nil fun a w ha hI=>?_
  refine wpIn_seq ?_
  refine TG.region ?_ ha hI
  refine c7 (az F) ?_
  refine C2 (tm:=.iface 163 (.agg #[])) UA (vs:=[cW (some ⟨zc,0,none⟩) 0]) (R:=fun v N=> ∃M k',v=dV M k'∧N=[dI 56 4 3 M k']∧G M) (Z:=Z) (fun w hI=>(haveI:=di hI;hC F (by omega) (by omega) w zc hI.kw (hI.iG (mG 0 F)))) F (fun a w ha hI hZ=>?_) ?_
  ·show LeavesInM _ _ _ _ _ _ a.defers _ w
   rw[ha.defers]
   refine⟨by simp,.inr ⟨fun h=>by simp[Fence.wide]at h,_,_,45,_,F,Zg z6 z7 w,fun _ _=>trivial,?_⟩⟩
   refine(Ja base z6 z7 M w 163 (.agg #[]) (hI.iN (Sub.qR (ar [2,1] F)))).mono ?_
   rintro e u' w' ⟨rfl,rfl,l6⟩
   refine Bc ha.tmp l6 (ap ?_)
   refine ga (i:=0) (j:=1) Tryz.results19 bW F aY mr F r6 r7 F F F ?_
   exact⟨[],Sub.z,.inr (.inr ⟨F,by omega,.inr ⟨F,F,hZ⟩⟩)⟩
  rintro v N ⟨Md,kd,rfl,rfl,hG⟩
  refine fh F (sf (v:=dV Md kd) (vs:=dC Md kd) 3 aY r6 F F F F F (show 0+4≤4 by decide) ?_)
  refine fh F (sf (v:=.int .i64 0) (vs:=[.int .i64 0]) 2 gB r7 F F F F F (by decide) ?_)
  refine TG.nil fun a w ha hI=>wpIn_ret ?_
  show LeavesInM _ _ _ _ _ _ a.defers _ w
  rw[ha.defers]
  refine⟨by simp,.inr ⟨fun h=>by simp[Fence.wide]at h,_,_,45,_,F,Zg z6 z7 w,fun _ _=>trivial,?_⟩⟩
  refine(L7 w _ _).mono ?_
  rintro e u' w' ⟨rfl,rfl,rfl⟩
  refine Bc ha.tmp hI (ap ?_)
  refine ga (i:=3) (j:=2) Tryz.results19 bW F aY mr F r6 r7 F F F ?_
  exact⟨[dI 56 4 3 Md kd],ar [0] F,.inr (.inr ⟨F,by omega,.inl ⟨Md,kd,F,F,hG⟩⟩)⟩
end Go.Proofs.YtgdbfideeeegmaaGreatDoor

namespace Go.Proofs.YtgdbfideeeegmaaGreatDoor
open Go.Lx Go.RowKit _root_.Go.Proofs.Tryz
theorem eN.u8 {P:Program} {kt:TypeId} {k:IntKind} (hu:P.underlying kt=some (.int k)):eN P kt (fun a:Nat=>Value.int .u8 (a:Int)) where
 check:=fun e a w=>by
  show(Instr.checkKey e (9999+1) kt _).run P w=_
  rw[Instr.checkKey]
  simp[aT hu,str]
 find:=fun es ks a w h=>by
  have key: ∀(es:List MapEntry) (ks:List Nat) (i:Nat),es.map (·.key)=ks.map (fun a:Nat=>Value.int .u8 (a:Int))→Instr.findNow (.int k) (.int .u8 (a:Int)) es i=some (jG a ks es i):=by
   intro es
   induction es with
   |nil=>intro ks i h;cases ks<;>simp_all[Instr.findNow,jG]
   |cons e es ih=>
    intro ks i h
    cases ks with
    |nil=>simp at h
    |cons b ks=>
     simp only[List.map_cons,List.cons.injEq]at h
     simp only[Instr.findNow,h.1,Instr.sameNow,if_true,jG]
     by_cases e:a=b
     ·simp[e]
     ·have:((a:Int)==(b:Int))=false:=by rw[beq_eq_false_iff_ne];omega
      simp[this,e,ih ks (i+1) h.2]
  simp[Instr.findKey,aT hu,key es ks 0 h]
def gP:Nat→List UInt8×List UInt8×List UInt8
 |4=>([40],[46],[41])|5=>([40],[124],[41])|6=>([40],[38],[41])|7=>([40,126],[],[41])|8=>([40],[],[42,41])|9=>([40,62],[],[41])|10=>([40,60],[],[41])|_=>([],[],[])
def cZ (n:Nat):Nat:=if n=4∨n=5∨n=6 then 2 else if n=7∨n=8∨n=9∨n=10 then 1 else 0
def A8 (n:Nat):Value:=.agg #[vI (cZ n:Int),str (gP n).1,str (gP n).2.1,str (gP n).2.2]
abbrev A_ (m:Nat):Lx.Item:=cm (fun a:Nat=>Value.int .u8 (a:Int)) A8 m [(4,4),(5,5),(6,6),(7,7),(8,8),(9,9),(10,10)]
theorem rz (n:Nat):((j9 n [(4,4),(5,5),(6,6),(7,7),(8,8),(9,9),(10,10)]).map A8).getD (.agg #[vI 0,str [],str [],str []])=A8 n:=by
 by_cases h:4≤n∧n≤10
 ·obtain⟨h1,h2⟩:=h
  have:n=4∨n=5∨n=6∨n=7∨n=8∨n=9∨n=10:=by omega
  rcases this with rfl|rfl|rfl|rfl|rfl|rfl|rfl<;>rfl
 ·have h4:n≠4:=by omega
  have h5:n≠5:=by omega
  have h6:n≠6:=by omega
  have h7:n≠7:=by omega
  have h8:n≠8:=by omega
  have h9:n≠9:=by omega
  have T2:n≠10:=by omega
  have hx:gP n=([],[],[]):=by unfold gP;split<;>first|omega|rfl
  have hc:cZ n=0:=by unfold cZ;rw[if_neg (by omega),if_neg (by omega)]
  unfold A8;rw[hx,hc]
  simp[j9,h4,h5,h6,h7,h8,h9,T2]
def na (v p n:Nat):Nat:=if 2^v≤(p|||n)then 7 else if p&&&n≠0 then 2 else 0
def fR (v:Nat) (x:dF):Nat:=if x.op<1∨10<x.op then 6 else if(x.op≠3∧(x.p|||x.n)≠0)∨(cZ x.op<1∧x.a≠0)∨(cZ x.op<2∧x.b≠0)then 2 else if x.op=3 then na v x.p x.n else 0
theorem nm (w:World) [cG Tryz.prog w]:
  bI Tryz.prog 56 [] w fun v N=> ∃m,v=.map (some m)∧N=[A_ m]:=by
 refine aw func56 F ntmps56 F ?_
 refine ai (aj F (ae (ai (ak F (i_ (fun a:Nat=>Value.int .u8 (a:Int)) A8 (fun m1=>?_))))))
 refine ad (bG (cs:=[vI 2,(str [40]),(str [46]),(str [41])]) qx jL (by kernel_rfl)) (ak F (ep (a:=(4:Nat)) (v:=(4:Nat)) 0 tY (eN.u8 eu) F F F F (by decide) ?_))
 refine ad (bG (cs:=[vI 2,(str [40]),(str [124]),(str [41])]) qx jL (by kernel_rfl)) (ak F (ep (a:=(5:Nat)) (v:=(5:Nat)) 0 tY (eN.u8 eu) F F F F (by decide) ?_))
 refine ad (bG (cs:=[vI 2,(str [40]),(str [38]),(str [41])]) qx jL (by kernel_rfl)) (ak F (ep (a:=(6:Nat)) (v:=(6:Nat)) 0 tY (eN.u8 eu) F F F F (by decide) ?_))
 refine ad (bG (cs:=[vI 1,(str [40,126]),(str []),(str [41])]) qx jL (by kernel_rfl)) (ak F (ep (a:=(7:Nat)) (v:=(7:Nat)) 0 tY (eN.u8 eu) F F F F (by decide) ?_))
 refine ad (bG (cs:=[vI 1,(str [40]),(str []),(str [42,41])]) qx jL (by kernel_rfl)) (ak F (ep (a:=(8:Nat)) (v:=(8:Nat)) 0 tY (eN.u8 eu) F F F F (by decide) ?_))
 refine ad (bG (cs:=[vI 1,(str [40,62]),(str []),(str [41])]) qx jL (by kernel_rfl)) (ak F (ep (a:=(9:Nat)) (v:=(9:Nat)) 0 tY (eN.u8 eu) F F F F (by decide) ?_))
 refine ad (bG (cs:=[vI 1,(str [40,60]),(str []),(str [41])]) qx jL (by kernel_rfl)) (ak F (ep (a:=(10:Nat)) (v:=(10:Nat)) 0 tY (eN.u8 eu) F F F F (by decide) ?_))
 refine ah F (aj F (ae (aA (ap ?_))))
 refine aE (.map (some m1)) Tryz.results56 F ?_
 exact⟨[A_ m1],Sub.rf,m1,F,F⟩
theorem fT (w:World) [cG Tryz.prog w] (p n v:Nat) (hp:p<256) (hn:n<256) (hv:v≤6):
  bI Tryz.prog 171 [.agg #[v8 p,v8 n],vN v] w fun r N=>r=vI (na v p n:Int)∧N=[]:=by
 refine aw func171 F ntmps171 F ?_
 have Od:2^v≤2^6:=Nat.pow_le_pow_right (by decide) hv
 have W9:(p|||n)<2^8:=Nat.or_lt_two_pow hp hn
 refine ai (ak F (cH (cs:=[v8 p,v8 n]) F F (fun lX=>?_)))
 refine aj F (ae (aB (aG (aB (ai (ah F (ad (aq (bT F F) (decide_eq_false (by omega))) (ah F (au F F (az F) (au F F (aq (fW F F) (decide_eq_false (by omega))) (ad (bl F F) (aj F (ae (aL F ?_))))))))))))))
 refine eD [(0,0),(1,0),(2,0),(3,0),(4,0),(5,0),(6,0),(7,0),(8,0),(9,0)] ?_
 refine ao F (aN jt F cI F F) (ao F (aQ 0 eu F F F F) (ao F (aN jt F cI F F) (ao F (aQ 0 eu F F F F) (ao F (OF (a:=p) (b:=n) .u8 F F (by simp only[IntKind.bits];omega) (by simp only[IntKind.bits];omega)) (ao F (et eu cS F (fz (by omega))) (ao F (az F) (ao F (kV (v:=v) F F (by omega)) (ao F (jF F F) (ao F (bt F) ?_)))))))))
 refine bw ?_
 refine aC F (fun hc=>?_) (fun hc=>?_)
 ·have Wk:p|||n≥2^v:=by omega
  refine ai (aj F (ae (aA (ap ?_))))
  refine aE (vI 7) Tryz.results171 F ?_
  exact⟨[],Sub.z,by unfold na;rw[if_pos (by omega)];rfl,F⟩
 have Wl: ¬p|||n≥2^v:=by omega
 refine ai (ad (aN jt F cI F F) (ad (aQ 0 eu F F F F) (ad (aN jt F cI F F) (ad (aQ 0 eu F F F F) (ad (Dz (a:=p) (b:=n) .u8 F F (by show _<256;omega) (by show _<256;omega)) (ad (cT F F) (aj F (ae (aC F (fun hc=>?_) (fun hc=>?_))))))))))
 ·have sV:p&&&n≠0:=by omega
  refine ai (aj F (ae (aA (ap ?_))))
  refine aE (vI 2) Tryz.results171 F ?_
  exact⟨[],Sub.z,by unfold na;rw[if_neg (by omega),if_pos (by omega)];rfl,F⟩
 have uB: ¬p&&&n≠0:=by omega
 refine av (ai (aj F (ae (aA (ap ?_)))))
 refine aE (vI 0) Tryz.results171 F ?_
 exact⟨[],Sub.z,by unfold na;rw[if_neg (by omega),if_neg (by omega)];rfl,F⟩
end Go.Proofs.YtgdbfideeeegmaaGreatDoor

namespace Go.Proofs.YtgdbfideeeegmaaGreatDoor
open Go.Lx Go.RowKit _root_.Go.Proofs.Tryz
theorem Qr (w:World) [cG Tryz.prog w] (x:dF) (v:Nat) (hp:x.p<256) (hn:x.n<256) (hv:v≤6):
  bI Tryz.prog 127 [x.ag,vN v] w fun r N=>r=vI (fR v x:Int)∧N=[]:=by
 refine aw func127 F ntmps127 F ?_
 have W9:(x.p|||x.n)<2^8:=Nat.or_lt_two_pow hp hn
 refine ai (ak F (cH (cs:=x.cl) F F (fun z1=>?_)))
 refine aj F (ae ?_)
 refine e7 (fun ρ O=> ∃(m zo:Nat),O=[A_ m,oI zo 96 [vN (cZ x.op),str (gP x.op).1,str (gP x.op).2.1,str (gP x.op).2.2],oI z1 72 x.cl]∧cw [(0,x.ag),(1,vN v),(2,(.pointer (aD z1))),(4,vI 0),(5,(.pointer (aD zo)))] ρ) ?_ ?_
 ·refine ma [oI z1 72 x.cl] 6 mixed F (by exact Sub.rf) (fun _ _ _ _ h=>h) ?_
  refine bF 1 F (by kernel_rfl) (aN bs F cI F F) ?_
  refine bF 2 F (by kernel_rfl) (aQ 0 eu F F F F) ?_
  have Hy:=fun(w1:World) (hI:Inv w [oI z1 72 x.cl] w1)=>(haveI:=di hI;nm w1)
  refine aM [0,4] (by kernel_rfl) F ⟨⟨_,F,F,aP Ed (aI Hy) F ?_⟩,⟨_,F,F,aR jL F (fun zo=>⟨by exact Sub.d (.k .z),?_⟩)⟩,trivial⟩
  ·clear Hy
   rintro vr O' ⟨N,rfl,m,rfl,rfl⟩
   refine⟨by exact Sub.d (.k .z),?_⟩
   refine aM [3,4] (by kernel_rfl) F ⟨⟨_,F,F,dw F F (a7 (oh (a:=x.op) tY jL (eN.u8 eu) F F (mG 0 F)) (v':=(.agg #[vN (cZ x.op),str (gP x.op).1,str (gP x.op).2.1,str (gP x.op).2.2])) (rz x.op)) ⟨by exact Sub.d (.k .z),?_⟩⟩,⟨_,F,F,aR jL F (fun zo=>⟨by exact Sub.d (.d (.k .z)),?_⟩)⟩,trivial⟩
   ·refine aM [4] (by kernel_rfl) F ⟨⟨_,F,F,aR jL F (fun zo=>⟨by exact Sub.d (.d (.k .z)),?_⟩)⟩,trivial⟩
    refine aM [5] (by kernel_rfl) F ⟨⟨_,F,F,a8 (vs:=[vN (cZ x.op),str (gP x.op).1,str (gP x.op).2.1,str (gP x.op).2.2]) 0 jL F F F F ⟨by exact Sub.d (.d (.k .z)),?_⟩⟩,trivial⟩
    exact cz (by kernel_rfl) ⟨m,zo,F,(.of F)⟩ (by exact Sub.dr [oI zo 96 [vN (cZ x.op),str (gP x.op).1,str (gP x.op).2.1,str (gP x.op).2.2]] _ (.k (.k .z)))
   refine aM [3] (by kernel_rfl) F ⟨⟨_,F,F,dw F F (a7 (oh (a:=x.op) tY jL (eN.u8 eu) F F (mG 1 F)) (v':=(.agg #[vN (cZ x.op),str (gP x.op).1,str (gP x.op).2.1,str (gP x.op).2.2])) (rz x.op)) ⟨by exact Sub.d (.d (.k .z)),?_⟩⟩,trivial⟩
   refine aM [5] (by kernel_rfl) F ⟨⟨_,F,F,a8 (vs:=[vN (cZ x.op),str (gP x.op).1,str (gP x.op).2.1,str (gP x.op).2.2]) 0 jL F F F F ⟨by exact Sub.d (.d (.k .z)),?_⟩⟩,trivial⟩
   exact cz (by kernel_rfl) ⟨m,zo,F,(.of F)⟩ (by exact Sub.dr [oI zo 96 [vN (cZ x.op),str (gP x.op).1,str (gP x.op).2.1,str (gP x.op).2.2]] _ (.k (.k .z)))
  refine aM [0] (by kernel_rfl) F ⟨⟨_,F,F,aP Ed (aW nm) F ?_⟩,trivial⟩
  rintro vr O' ⟨N,rfl,m,rfl,rfl⟩
  refine⟨by exact Sub.d (.d (.k .z)),?_⟩
  refine aM [3] (by kernel_rfl) F ⟨⟨_,F,F,dw F F (a7 (oh (a:=x.op) tY jL (eN.u8 eu) F F (mG 0 F)) (v':=(.agg #[vN (cZ x.op),str (gP x.op).1,str (gP x.op).2.1,str (gP x.op).2.2])) (rz x.op)) ⟨by exact Sub.d (.d (.k .z)),?_⟩⟩,trivial⟩
  refine aM [5] (by kernel_rfl) F ⟨⟨_,F,F,a8 (vs:=[vN (cZ x.op),str (gP x.op).1,str (gP x.op).2.1,str (gP x.op).2.2]) 1 jL F F F F ⟨by exact Sub.d (.d (.k .z)),?_⟩⟩,trivial⟩
  exact cz (by kernel_rfl) ⟨m,zo,F,(.of F)⟩ (by exact Sub.rf)
 rintro ρ O ⟨m,zo,rfl,hH⟩
 obtain⟨fE,rfl⟩:=hH.elim
 clear hH
 refine aB (aG (ai (ad (aN bs F cI F F) (ad (aQ 2 eu F F F F) (ad (bT F F) ?_)))))
 by_cases h1:((x.op:Nat):Int)<1
 ·refine ad (aq (az F) (decide_eq_true h1)) ?_
  refine aF F F (aF F F (aF F F (ad (bu F F) (aj F (ae ?_)))))
  refine bj F ?_
  refine ai (aj F (ae (aA (ap ?_))))
  refine aE (vI 6) Tryz.results127 F ?_
  exact⟨[],Sub.z,by unfold fR;rw[if_pos (by omega)];rfl,F⟩
 refine ad (aq (az F) (decide_eq_false h1)) (au F F (aN bs F cI F F) (au F F (aQ 2 eu F F F F) (au F F (fW F F) (ad (bl F F) (aj F (ae (aC F (fun hc=>?_) (fun hc=>?_))))))))
 ·have jJ:x.op>10:=by omega
  refine ai (aj F (ae (aA (ap ?_))))
  refine aE (vI 6) Tryz.results127 F ?_
  exact⟨[],Sub.z,by unfold fR;rw[if_pos (by omega)];rfl,F⟩
 have ta: ¬x.op>10:=by omega
 refine aB (ai (ad (aN bs F cI F F) (ad (aQ 2 eu F F F F) (ad (cT F F) ?_))))
 by_cases h3:((x.op:Nat):Int)≠3
 ·refine ad (aq (az F) (decide_eq_true h3)) ?_
  refine au F F (aN bs F cI F F) (au F F (aQ 2 eu F F F F) (au F F (aN bs F cI F F) (au F F (aQ 2 eu F F F F) (au F F (OF (a:=x.p) (b:=x.n) .u8 F F (by simp only[IntKind.bits];omega) (by simp only[IntKind.bits];omega)) (au F F (cT F F) (ad (bu F F) (aj F (ae (aC F (fun hc=>?_) (fun hc=>?_))))))))))
  ·have Nv:x.p|||x.n≠0:=by omega
   refine av (aC F (fun hc=>?_) (fun hc=>?_))
   ·have Nv:x.p|||x.n≠0:=by omega
    refine ai (aj F (ae (aA (ap ?_))))
    refine aE (vI 2) Tryz.results127 F ?_
    exact⟨[],Sub.z,by unfold fR;rw[if_neg (by omega),if_pos (by omega)];rfl,F⟩
   have Nw: ¬x.p|||x.n≠0:=by omega
   refine ai (ad (aN bs F cI F F) (ad (aQ 2 eu F F F F) (ad (aZ F F) (aj F (ae (aC F (fun hc=>?_) (fun hc=>?_)))))))
   ·have lL:x.op=3:=by omega
    refine ai (ad (aN bs F cI F F) (ad (aQ 2 eu F F F F) (ad (aN bs F cI F F) (ad (aQ 2 eu F F F F) (ad (bG (cs:=[v8 x.p,v8 x.n]) gM eO (by kernel_rfl)) (ah F (ak F (aP lw (aI fun w1 hI=>(haveI:=di hI;fT w1 x.p x.n v hp hn hv)) F ?_))))))))
    rintro vr O' ⟨N,rfl,rfl,rfl⟩
    refine aj F (ae (aA (ap ?_)))
    refine aE (vI (na v x.p x.n:Int)) Tryz.results127 F ?_
    exact⟨[],Sub.z,by unfold fR;rw[if_neg (by omega),if_neg (by omega),if_pos (by omega)],F⟩
   have lM: ¬x.op=3:=by omega
   refine av (ai (aj F (ae (aA (ap ?_)))))
   refine aE (vI 0) Tryz.results127 F ?_
   exact⟨[],Sub.z,by unfold fR;rw[if_neg (by omega),if_neg (by omega),if_neg (by omega)];rfl,F⟩
  have Nw: ¬x.p|||x.n≠0:=by omega
  refine ai (ad (aN Ba F aO F F) (ad (aQ 1 cS F F F F) (ad (bT F F) ?_)))
  by_cases ww:((cZ x.op:Nat):Int)<1
  ·refine ad (aq (az F) (decide_eq_true ww)) ?_
   refine au F F (aN bs F aO F F) (au F F (aQ 2 cS F F F F) (au F F (cT F F) (ad (bu F F) (aj F (ae (aC F (fun hc=>?_) (fun hc=>?_)))))))
   ·refine av ?_
    refine aC F (fun hc=>?_) (fun hc=>?_)
    ·refine aB ?_
     refine aJ (aj F (ae (aA (ap ?_))))
     refine aE (vI 2) Tryz.results127 F ?_
     exact⟨[],Sub.z,by unfold fR;rw[if_neg (by omega),if_pos (by omega)];rfl,F⟩
    refine ai (ad (aN bs F cI F F) (ad (aQ 2 eu F F F F) (ad (aZ F F) (aj F (ae (aC F (fun hc=>?_) (fun hc=>?_)))))))
    ·have lL:x.op=3:=by omega
     refine ai (ad (aN bs F cI F F) (ad (aQ 2 eu F F F F) (ad (aN bs F cI F F) (ad (aQ 2 eu F F F F) (ad (bG (cs:=[v8 x.p,v8 x.n]) gM eO (by kernel_rfl)) (ah F (ak F (aP lw (aI fun w1 hI=>(haveI:=di hI;fT w1 x.p x.n v hp hn hv)) F ?_))))))))
     rintro vr O' ⟨N,rfl,rfl,rfl⟩
     refine aj F (ae (aA (ap ?_)))
     refine aE (vI (na v x.p x.n:Int)) Tryz.results127 F ?_
     exact⟨[],Sub.z,by unfold fR;rw[if_neg (by omega),if_neg (by omega),if_pos (by omega)],F⟩
    have lM: ¬x.op=3:=by omega
    refine av (ai (aj F (ae (aA (ap ?_)))))
    refine aE (vI 0) Tryz.results127 F ?_
    exact⟨[],Sub.z,by unfold fR;rw[if_neg (by omega),if_neg (by omega),if_neg (by omega)];rfl,F⟩
   refine aJ (ad (aN Ba F aO F F) (ad (aQ 1 cS F F F F) (ad (bT F F) ?_)))
   by_cases pO:((cZ x.op:Nat):Int)<2
   ·refine ad (aq (az F) (decide_eq_true pO)) ?_
    refine au F F (aN bs F aO F F) (au F F (aQ 2 cS F F F F) (au F F (cT F F) (ad (bu F F) (aj F (ae (aC F (fun hc=>?_) (fun hc=>?_)))))))
    ·refine aB ?_
     refine aJ (aj F (ae (aA (ap ?_))))
     refine aE (vI 2) Tryz.results127 F ?_
     exact⟨[],Sub.z,by unfold fR;rw[if_neg (by omega),if_pos (by omega)];rfl,F⟩
    refine ai (ad (aN bs F cI F F) (ad (aQ 2 eu F F F F) (ad (aZ F F) (aj F (ae (aC F (fun hc=>?_) (fun hc=>?_)))))))
    ·have lL:x.op=3:=by omega
     refine ai (ad (aN bs F cI F F) (ad (aQ 2 eu F F F F) (ad (aN bs F cI F F) (ad (aQ 2 eu F F F F) (ad (bG (cs:=[v8 x.p,v8 x.n]) gM eO (by kernel_rfl)) (ah F (ak F (aP lw (aI fun w1 hI=>(haveI:=di hI;fT w1 x.p x.n v hp hn hv)) F ?_))))))))
     rintro vr O' ⟨N,rfl,rfl,rfl⟩
     refine aj F (ae (aA (ap ?_)))
     refine aE (vI (na v x.p x.n:Int)) Tryz.results127 F ?_
     exact⟨[],Sub.z,by unfold fR;rw[if_neg (by omega),if_neg (by omega),if_pos (by omega)],F⟩
    have lM: ¬x.op=3:=by omega
    refine av (ai (aj F (ae (aA (ap ?_)))))
    refine aE (vI 0) Tryz.results127 F ?_
    exact⟨[],Sub.z,by unfold fR;rw[if_neg (by omega),if_neg (by omega),if_neg (by omega)];rfl,F⟩
   refine ad (aq (az F) (decide_eq_false pO)) (aF F F (aF F F (aF F F (ad (bl F F) (aj F (ae (aL F (ai ?_))))))))
   refine ad (aN bs F cI F F) (ad (aQ 2 eu F F F F) (ad (aZ F F) (aj F (ae (aC F (fun hc=>?_) (fun hc=>?_))))))
   ·have lL:x.op=3:=by omega
    refine ai (ad (aN bs F cI F F) (ad (aQ 2 eu F F F F) (ad (aN bs F cI F F) (ad (aQ 2 eu F F F F) (ad (bG (cs:=[v8 x.p,v8 x.n]) gM eO (by kernel_rfl)) (ah F (ak F (aP lw (aI fun w1 hI=>(haveI:=di hI;fT w1 x.p x.n v hp hn hv)) F ?_))))))))
    rintro vr O' ⟨N,rfl,rfl,rfl⟩
    refine aj F (ae (aA (ap ?_)))
    refine aE (vI (na v x.p x.n:Int)) Tryz.results127 F ?_
    exact⟨[],Sub.z,by unfold fR;rw[if_neg (by omega),if_neg (by omega),if_pos (by omega)],F⟩
   have lM: ¬x.op=3:=by omega
   refine av (ai (aj F (ae (aA (ap ?_)))))
   refine aE (vI 0) Tryz.results127 F ?_
   exact⟨[],Sub.z,by unfold fR;rw[if_neg (by omega),if_neg (by omega),if_neg (by omega)];rfl,F⟩
  refine ad (aq (az F) (decide_eq_false ww)) (aF F F (aF F F (aF F F (ad (bl F F) (aj F (ae (aL F (aJ ?_))))))))
  refine ad (aN Ba F aO F F) (ad (aQ 1 cS F F F F) (ad (bT F F) ?_))
  by_cases pO:((cZ x.op:Nat):Int)<2
  ·refine ad (aq (az F) (decide_eq_true pO)) ?_
   refine au F F (aN bs F aO F F) (au F F (aQ 2 cS F F F F) (au F F (cT F F) (ad (bu F F) (aj F (ae (aC F (fun hc=>?_) (fun hc=>?_)))))))
   ·refine aB ?_
    refine aJ (aj F (ae (aA (ap ?_))))
    refine aE (vI 2) Tryz.results127 F ?_
    exact⟨[],Sub.z,by unfold fR;rw[if_neg (by omega),if_pos (by omega)];rfl,F⟩
   refine ai (ad (aN bs F cI F F) (ad (aQ 2 eu F F F F) (ad (aZ F F) (aj F (ae (aC F (fun hc=>?_) (fun hc=>?_)))))))
   ·have lL:x.op=3:=by omega
    refine ai (ad (aN bs F cI F F) (ad (aQ 2 eu F F F F) (ad (aN bs F cI F F) (ad (aQ 2 eu F F F F) (ad (bG (cs:=[v8 x.p,v8 x.n]) gM eO (by kernel_rfl)) (ah F (ak F (aP lw (aI fun w1 hI=>(haveI:=di hI;fT w1 x.p x.n v hp hn hv)) F ?_))))))))
    rintro vr O' ⟨N,rfl,rfl,rfl⟩
    refine aj F (ae (aA (ap ?_)))
    refine aE (vI (na v x.p x.n:Int)) Tryz.results127 F ?_
    exact⟨[],Sub.z,by unfold fR;rw[if_neg (by omega),if_neg (by omega),if_pos (by omega)],F⟩
   have lM: ¬x.op=3:=by omega
   refine av (ai (aj F (ae (aA (ap ?_)))))
   refine aE (vI 0) Tryz.results127 F ?_
   exact⟨[],Sub.z,by unfold fR;rw[if_neg (by omega),if_neg (by omega),if_neg (by omega)];rfl,F⟩
  refine ad (aq (az F) (decide_eq_false pO)) (aF F F (aF F F (aF F F (ad (bl F F) (aj F (ae (aL F (ai ?_))))))))
  refine ad (aN bs F cI F F) (ad (aQ 2 eu F F F F) (ad (aZ F F) (aj F (ae (aC F (fun hc=>?_) (fun hc=>?_))))))
  ·have lL:x.op=3:=by omega
   refine ai (ad (aN bs F cI F F) (ad (aQ 2 eu F F F F) (ad (aN bs F cI F F) (ad (aQ 2 eu F F F F) (ad (bG (cs:=[v8 x.p,v8 x.n]) gM eO (by kernel_rfl)) (ah F (ak F (aP lw (aI fun w1 hI=>(haveI:=di hI;fT w1 x.p x.n v hp hn hv)) F ?_))))))))
   rintro vr O' ⟨N,rfl,rfl,rfl⟩
   refine aj F (ae (aA (ap ?_)))
   refine aE (vI (na v x.p x.n:Int)) Tryz.results127 F ?_
   exact⟨[],Sub.z,by unfold fR;rw[if_neg (by omega),if_neg (by omega),if_pos (by omega)],F⟩
  have lM: ¬x.op=3:=by omega
  refine av (ai (aj F (ae (aA (ap ?_)))))
  refine aE (vI 0) Tryz.results127 F ?_
  exact⟨[],Sub.z,by unfold fR;rw[if_neg (by omega),if_neg (by omega),if_neg (by omega)];rfl,F⟩
 refine ad (aq (az F) (decide_eq_false h3)) (aF F F (aF F F (aF F F (aF F F (aF F F (aF F F (ad (bl F F) (aj F ?_))))))))
 refine ae (aL F (ai (ad (aN Ba F aO F F) (ad (aQ 1 cS F F F F) (ad (bT F F) ?_)))))
 by_cases ww:((cZ x.op:Nat):Int)<1
 ·refine ad (aq (az F) (decide_eq_true ww)) ?_
  refine au F F (aN bs F aO F F) (au F F (aQ 2 cS F F F F) (au F F (cT F F) (ad (bu F F) (aj F (ae (aC F (fun hc=>?_) (fun hc=>?_)))))))
  ·refine av ?_
   refine aC F (fun hc=>?_) (fun hc=>?_)
   ·refine aB ?_
    refine aJ (aj F (ae (aA (ap ?_))))
    refine aE (vI 2) Tryz.results127 F ?_
    exact⟨[],Sub.z,by unfold fR;rw[if_neg (by omega),if_pos (by omega)];rfl,F⟩
   refine ai (ad (aN bs F cI F F) (ad (aQ 2 eu F F F F) (ad (aZ F F) (aj F (ae (aC F (fun hc=>?_) (fun hc=>?_)))))))
   ·have lL:x.op=3:=by omega
    refine ai (ad (aN bs F cI F F) (ad (aQ 2 eu F F F F) (ad (aN bs F cI F F) (ad (aQ 2 eu F F F F) (ad (bG (cs:=[v8 x.p,v8 x.n]) gM eO (by kernel_rfl)) (ah F (ak F (aP lw (aI fun w1 hI=>(haveI:=di hI;fT w1 x.p x.n v hp hn hv)) F ?_))))))))
    rintro vr O' ⟨N,rfl,rfl,rfl⟩
    refine aj F (ae (aA (ap ?_)))
    refine aE (vI (na v x.p x.n:Int)) Tryz.results127 F ?_
    exact⟨[],Sub.z,by unfold fR;rw[if_neg (by omega),if_neg (by omega),if_pos (by omega)],F⟩
   have lM: ¬x.op=3:=by omega
   refine av (ai (aj F (ae (aA (ap ?_)))))
   refine aE (vI 0) Tryz.results127 F ?_
   exact⟨[],Sub.z,by unfold fR;rw[if_neg (by omega),if_neg (by omega),if_neg (by omega)];rfl,F⟩
  refine aJ (ad (aN Ba F aO F F) (ad (aQ 1 cS F F F F) (ad (bT F F) ?_)))
  by_cases pO:((cZ x.op:Nat):Int)<2
  ·refine ad (aq (az F) (decide_eq_true pO)) ?_
   refine au F F (aN bs F aO F F) (au F F (aQ 2 cS F F F F) (au F F (cT F F) (ad (bu F F) (aj F (ae (aC F (fun hc=>?_) (fun hc=>?_)))))))
   ·refine aB ?_
    refine aJ (aj F (ae (aA (ap ?_))))
    refine aE (vI 2) Tryz.results127 F ?_
    exact⟨[],Sub.z,by unfold fR;rw[if_neg (by omega),if_pos (by omega)];rfl,F⟩
   refine ai (ad (aN bs F cI F F) (ad (aQ 2 eu F F F F) (ad (aZ F F) (aj F (ae (aC F (fun hc=>?_) (fun hc=>?_)))))))
   ·have lL:x.op=3:=by omega
    refine ai (ad (aN bs F cI F F) (ad (aQ 2 eu F F F F) (ad (aN bs F cI F F) (ad (aQ 2 eu F F F F) (ad (bG (cs:=[v8 x.p,v8 x.n]) gM eO (by kernel_rfl)) (ah F (ak F (aP lw (aI fun w1 hI=>(haveI:=di hI;fT w1 x.p x.n v hp hn hv)) F ?_))))))))
    rintro vr O' ⟨N,rfl,rfl,rfl⟩
    refine aj F (ae (aA (ap ?_)))
    refine aE (vI (na v x.p x.n:Int)) Tryz.results127 F ?_
    exact⟨[],Sub.z,by unfold fR;rw[if_neg (by omega),if_neg (by omega),if_pos (by omega)],F⟩
   have lM: ¬x.op=3:=by omega
   refine av (ai (aj F (ae (aA (ap ?_)))))
   refine aE (vI 0) Tryz.results127 F ?_
   exact⟨[],Sub.z,by unfold fR;rw[if_neg (by omega),if_neg (by omega),if_neg (by omega)];rfl,F⟩
  refine ad (aq (az F) (decide_eq_false pO)) (aF F F (aF F F (aF F F (ad (bl F F) (aj F (ae (aL F (ai ?_))))))))
  refine ad (aN bs F cI F F) (ad (aQ 2 eu F F F F) (ad (aZ F F) (aj F (ae (aC F (fun hc=>?_) (fun hc=>?_))))))
  ·have lL:x.op=3:=by omega
   refine ai (ad (aN bs F cI F F) (ad (aQ 2 eu F F F F) (ad (aN bs F cI F F) (ad (aQ 2 eu F F F F) (ad (bG (cs:=[v8 x.p,v8 x.n]) gM eO (by kernel_rfl)) (ah F (ak F (aP lw (aI fun w1 hI=>(haveI:=di hI;fT w1 x.p x.n v hp hn hv)) F ?_))))))))
   rintro vr O' ⟨N,rfl,rfl,rfl⟩
   refine aj F (ae (aA (ap ?_)))
   refine aE (vI (na v x.p x.n:Int)) Tryz.results127 F ?_
   exact⟨[],Sub.z,by unfold fR;rw[if_neg (by omega),if_neg (by omega),if_pos (by omega)],F⟩
  have lM: ¬x.op=3:=by omega
  refine av (ai (aj F (ae (aA (ap ?_)))))
  refine aE (vI 0) Tryz.results127 F ?_
  exact⟨[],Sub.z,by unfold fR;rw[if_neg (by omega),if_neg (by omega),if_neg (by omega)];rfl,F⟩
 refine ad (aq (az F) (decide_eq_false ww)) (aF F F (aF F F (aF F F (ad (bl F F) (aj F (ae (aL F (aJ ?_))))))))
 refine ad (aN Ba F aO F F) (ad (aQ 1 cS F F F F) (ad (bT F F) ?_))
 by_cases pO:((cZ x.op:Nat):Int)<2
 ·refine ad (aq (az F) (decide_eq_true pO)) ?_
  refine au F F (aN bs F aO F F) (au F F (aQ 2 cS F F F F) (au F F (cT F F) (ad (bu F F) (aj F (ae (aC F (fun hc=>?_) (fun hc=>?_)))))))
  ·refine aB ?_
   refine aJ (aj F (ae (aA (ap ?_))))
   refine aE (vI 2) Tryz.results127 F ?_
   exact⟨[],Sub.z,by unfold fR;rw[if_neg (by omega),if_pos (by omega)];rfl,F⟩
  refine ai (ad (aN bs F cI F F) (ad (aQ 2 eu F F F F) (ad (aZ F F) (aj F (ae (aC F (fun hc=>?_) (fun hc=>?_)))))))
  ·have lL:x.op=3:=by omega
   refine ai (ad (aN bs F cI F F) (ad (aQ 2 eu F F F F) (ad (aN bs F cI F F) (ad (aQ 2 eu F F F F) (ad (bG (cs:=[v8 x.p,v8 x.n]) gM eO (by kernel_rfl)) (ah F (ak F (aP lw (aI fun w1 hI=>(haveI:=di hI;fT w1 x.p x.n v hp hn hv)) F ?_))))))))
   rintro vr O' ⟨N,rfl,rfl,rfl⟩
   refine aj F (ae (aA (ap ?_)))
   refine aE (vI (na v x.p x.n:Int)) Tryz.results127 F ?_
   exact⟨[],Sub.z,by unfold fR;rw[if_neg (by omega),if_neg (by omega),if_pos (by omega)],F⟩
  have lM: ¬x.op=3:=by omega
  refine av (ai (aj F (ae (aA (ap ?_)))))
  refine aE (vI 0) Tryz.results127 F ?_
  exact⟨[],Sub.z,by unfold fR;rw[if_neg (by omega),if_neg (by omega),if_neg (by omega)];rfl,F⟩
 refine ad (aq (az F) (decide_eq_false pO)) (aF F F (aF F F (aF F F (ad (bl F F) (aj F (ae (aL F (ai ?_))))))))
 refine ad (aN bs F cI F F) (ad (aQ 2 eu F F F F) (ad (aZ F F) (aj F (ae (aC F (fun hc=>?_) (fun hc=>?_))))))
 ·have lL:x.op=3:=by omega
  refine ai (ad (aN bs F cI F F) (ad (aQ 2 eu F F F F) (ad (aN bs F cI F F) (ad (aQ 2 eu F F F F) (ad (bG (cs:=[v8 x.p,v8 x.n]) gM eO (by kernel_rfl)) (ah F (ak F (aP lw (aI fun w1 hI=>(haveI:=di hI;fT w1 x.p x.n v hp hn hv)) F ?_))))))))
  rintro vr O' ⟨N,rfl,rfl,rfl⟩
  refine aj F (ae (aA (ap ?_)))
  refine aE (vI (na v x.p x.n:Int)) Tryz.results127 F ?_
  exact⟨[],Sub.z,by unfold fR;rw[if_neg (by omega),if_neg (by omega),if_pos (by omega)],F⟩
 have lM: ¬x.op=3:=by omega
 refine av (ai (aj F (ae (aA (ap ?_)))))
 refine aE (vI 0) Tryz.results127 F ?_
 exact⟨[],Sub.z,by unfold fR;rw[if_neg (by omega),if_neg (by omega),if_neg (by omega)];rfl,F⟩
end Go.Proofs.YtgdbfideeeegmaaGreatDoor

namespace Go.Lx
open Go.RowKit Go.Proofs.YtgdbfideeeegmaaGreatDoor
def fM (v:Nat) (fs:List Nat) (x:dF):Except Nat Nat:=
 if fR v x≠0 then .error (fR v x)
 else if cZ x.op=1 then(if fs.length=0∨x.a≠(fs.length:Int)-1 then .error 8 else .ok (fs.getD (fs.length-1) 0))
 else if cZ x.op=2 then(if fs.length=0∨x.b≠(fs.length:Int)-1∨fs.getD (fs.length-1) 0=0∨x.a≠(fs.getD (fs.length-1) 0:Int)-1 then .error 8 else .ok (fs.getD x.a.toNat 0))
 else .ok fs.length
def rA (v:Nat) (gq:Except Nat (List Nat)) (x:dF):Except Nat (List Nat):=
 match gq with
 | .error n=>.error n
 | .ok fs=>match fM v fs x with
  | .error n=>.error n
  | .ok b=>.ok (fs++[b])
def iw (v:Nat) (e:List dF):Except Nat (List Nat):=e.foldl (rA v) (.ok [])
theorem xH (v:Nat) {e:List dF} {i:Nat} (h:i<e.length):iw v (e.take (i+1))=rA v (iw v (e.take i)) e[i]:=by
 unfold iw;rw[List.take_succ_eq_append_getElem h,List.foldl_append];rfl
theorem rB (v n:Nat): ∀(e:List dF),e.foldl (rA v) (.error n)=.error n
 | []=>rfl
 |x::e=>by rw[List.foldl_cons];exact rB v n e
theorem Jm {v n:Nat} {e:List dF} {i:Nat} (h:iw v (e.take i)=.error n):iw v e=.error n:=by
 conv=>lhs;rw[←List.take_append_drop i e]
 unfold iw at h⊢;rw[List.foldl_append,h,rB]
theorem ij {v n:Nat} {e:List dF} {fs:List Nat} {i:Nat} (hi:i<e.length) (hf:iw v (e.take i)=.ok fs) (hs:fM v fs e[i]=.error n):iw v e=.error n:=by
 refine Jm (i:=i+1) ?_
 rw[xH v hi,hf];unfold rA;simp only[hs]
theorem oX {v b:Nat} {e:List dF} {fs:List Nat} {i:Nat} (hi:i<e.length) (hf:iw v (e.take i)=.ok fs) (hs:fM v fs e[i]=.ok b):iw v (e.take (i+1))=.ok (fs++[b]):=by
 rw[xH v hi,hf];unfold rA;simp only[hs]
theorem pt {fs:List Nat} {i b:Nat} (hl:fs.length=i) (h: ∀j,j<i→fs.getD j 0≤j) (hb:b≤i): ∀j,j<i+1→(fs++[b]).getD j 0≤j:=fun j hj=>by
 by_cases e:j=i
 ·subst e;rw[List.getD_eq_getElem?_getD,List.getElem?_append_right (by omega),hl,Nat.sub_self];exact hb
 ·have:=h j (by omega)
  rw[List.getD_eq_getElem?_getD]at this⊢
  rw[List.getElem?_append_left (by omega)];exact this
def lg (e:List dF):Nat→Nat→Bool→Bool
 |0,_,_=>true
 |f+1,i,fr=>
  if((e.getD i ⟨0,0,0,0,0⟩).op=9∨(e.getD i ⟨0,0,0,0,0⟩).op=10)∧fr=false then false
  else(decide (cZ (e.getD i ⟨0,0,0,0,0⟩).op<1)||lg e f (e.getD i ⟨0,0,0,0,0⟩).a.toNat (fr&&decide ((e.getD i ⟨0,0,0,0,0⟩).op=4∨(e.getD i ⟨0,0,0,0,0⟩).op=5)))&&
   (decide (cZ (e.getD i ⟨0,0,0,0,0⟩).op<2)||lg e f (e.getD i ⟨0,0,0,0,0⟩).b.toNat (fr&&decide ((e.getD i ⟨0,0,0,0,0⟩).op=4∨(e.getD i ⟨0,0,0,0,0⟩).op=5)))
theorem mB {e:List dF} {i:Nat} (h:i<e.length):e.getD i ⟨0,0,0,0,0⟩=e[i]:=by rw[List.getD_eq_getElem?_getD,List.getElem?_eq_getElem h];rfl
theorem kG {e:List dF} {f i:Nat} {fr:Bool} (h:i<e.length):lg e (f+1) i fr=if(e[i].op=9∨e[i].op=10)∧fr=false then false else(decide (cZ e[i].op<1)||lg e f e[i].a.toNat (fr&&decide (e[i].op=4∨e[i].op=5)))&&(decide (cZ e[i].op<2)||lg e f e[i].b.toNat (fr&&decide (e[i].op=4∨e[i].op=5))):=by
 rw[lg,mB h]
end Go.Lx

namespace Go.Proofs.YtgdbfideeeegmaaGreatDoor
open Go.Lx Go.RowKit _root_.Go.Proofs.Tryz
theorem L3 (w:World) [cG Tryz.prog w] (eb:Option Addr) (ec:Nat) (e:List dF) (hE:Sl w eb (bg e)) (CX:e.length≤64) (nK: ∀x∈e,x.p<256∧x.n<256) (v:Nat) (hv:v≤6):
  bI Tryz.prog 89 [.slice eb e.length ec,vN v] w fun r N=>(∃n,iw v e=.error n∧r=.tuple #[nS,vI (n:Int)]∧N=[])∨(∃fs b c,iw v e=.ok fs∧r=.tuple #[.slice b e.length c,vI 0]∧N=[am b c 3 1 (aX fs)]):=by
 refine aw func89 F ntmps89 F ?_
 refine ai (aj F (aj F (ae (aB (ai (ah F (ad (bS cN F) (ah F (ae (aG (T.dJ 3 1 ?_)))))))))))
 refine cM (fun(i:Nat) ρ O=> ∃(fs:List Nat) (b:Option Addr) (c:Nat),O=[am b c 3 1 (aX fs)]∧i≤e.length∧fs.length=i∧iw v (e.take i)=.ok fs∧(∀j,j<i→fs.getD j 0≤j)∧cw [(0,(.slice eb e.length ec)),(1,vN v),(4,(.slice b i c)),(10,(.slice eb e.length ec)),(11,vI (e.length:Int)),(12,vN i)] ρ) (fun i=>e.length-i) 0 ?_ ?_
 ·exact⟨[],none,0,F,Nat.zero_le _,F,F,fun j hj=>absurd hj (by omega),(.of F)⟩
 rintro i ρ O ⟨fs,b,c,rfl,hi,pP,kY,vx,hH⟩
 obtain⟨fE,rfl⟩:=hH.elim
 clear hH
 refine ai (ad (bT F F) (ae (aB (aC F (fun hc=>?_) (fun hc=>?_)))))
 ·have jI:i<e.length:=by omega
  have Kd:=nK _ (List.getElem_mem jI)
  refine av (aB (aG (ai (ah F (ad (cY (i:=i) cN bN F F (ay hE) jI (by rw[bE];omega)) (ad (dy (vs:=e[i].cl) bs F bN F F (Nat.succ_pos _) (ay hE) (jP jI)) (ak F (aR bN F (fun z1=>?_)))))))))
  refine aj F (ak F (a8 (vs:=e[i].cl) 0 bN F F F F ?_))
  refine ae (aB (ai (ad (dh 0 bs F bN F F F) (ah F ?_))))
  have oz:=fun(w1:World) (hI:Inv w [oI z1 72 e[i].cl,am b c 3 1 (aX fs)] w1)=>(haveI:=di hI;Qr w1 e[i] v Kd.1 Kd.2 hv)
  refine ak F (aP Qs (aI oz) F ?_)
  clear oz
  rintro vr O' ⟨N,rfl,rfl,rfl⟩
  refine aj F (ae (ai (ah F (ad (cT F F) (ae (aC F (fun hc=>?_) (fun hc=>?_)))))))
  ·have sV:fR v e[i]≠0:=by omega
   have s_:fR v e[i]≠0:=by omega
   refine ai (ah F (aj F (aj F (ae (aA (ap ?_))))))
   refine cy nS (vI (fR v e[i]:Int)) Tryz.results89 F F ?_
   have hs:fM v fs e[i]=.error (fR v e[i]):=by unfold fM;simp only[pP];rw[if_pos s_]
   exact⟨[],Sub.z,.inl ⟨_,ij jI kY hs,F,F⟩⟩
  have uB: ¬fR v e[i]≠0:=by omega
  have s_: ¬fR v e[i]≠0:=by omega
  refine av (ai (ah F (aj F (ae (aB (aB ?_))))))
  refine eD [(1,0),(2,0),(0,1),(3,2),(4,2)] ?_
  refine ao F (aN bs F cI F F) (ao F (aQ 0 eu F F F F) ?_)
  have vn:=fun(w1:World) (hI:Inv w [oI z1 72 e[i].cl,am b c 3 1 (aX fs)] w1)=>(haveI:=di hI;nm w1)
  refine bo F F (aP Ed (aI vn) F ?_)
  clear vn
  rintro vr O' ⟨N,rfl,m,rfl,rfl⟩
  refine⟨by exact Sub.d (.k (.k .z)),?_⟩
  refine bq F F (dw F F (a7 (oh (a:=e[i].op) tY jL (eN.u8 eu) F F (mG 0 F)) (v':=(.agg #[vN (cZ e[i].op),str (gP e[i].op).1,str (gP e[i].op).2.1,str (gP e[i].op).2.2])) (rz e[i].op)) ?_)
  refine bq F F (dw F F (DB Ba F cS F F F) ?_)
  refine bw ?_
  refine aG (ai ?_)
  refine ad (aZ F F) (aj F (ae (aC F (fun hc=>?_) (fun hc=>?_))))
  ·have Tq:cZ e[i].op=1:=by omega
   have tT:cZ e[i].op=1:=by omega
   refine aB (ai (ah F (ad (aZ F F) ?_)))
   by_cases Uq:((i:Nat):Int)=0
   ·refine ad (aq (az F) (decide_eq_true Uq)) ?_
    refine aF F F (aF F F (aF F F (aF F F (aF F F (ad (bu F F) (ae ?_))))))
    refine bj F ?_
    refine ai (aj F (aj F (ae (aA (ap ?_)))))
    refine cy nS (vI 8) Tryz.results89 F F ?_
    have hs:fM v fs e[i]=.error 8:=by unfold fM;simp only[pP];first|(rw[if_neg s_,if_pos tT,if_pos (by omega)];done)|(rw[if_neg s_,if_neg tT,if_pos qH,if_pos (by omega)];done)
    exact⟨[],Sub.z,.inl ⟨8,ij jI kY hs,F,F⟩⟩
   refine ad (aq (az F) (decide_eq_false Uq)) (au F F (aN bs F aO F F) (au F F (aQ 1 cS F F F F) (au F F (az F) (au F F (a7 (ez F F (by omega)) (v':=vN (i-1)) (congrArg (Value.int .i64) (by omega))) (au F F (cT F F) (ad (bl F F) (ae (aC F (fun hc=>?_) (fun hc=>?_)))))))))
   ·refine aB ?_
    refine aJ (aj F (aj F (ae (aA (ap ?_)))))
    refine cy nS (vI 8) Tryz.results89 F F ?_
    have hs:fM v fs e[i]=.error 8:=by unfold fM;simp only[pP];first|(rw[if_neg s_,if_pos tT,if_pos (by omega)];done)|(rw[if_neg s_,if_neg tT,if_pos qH,if_pos (by omega)];done)
    exact⟨[],Sub.z,.inl ⟨8,ij jI kY hs,F,F⟩⟩
   have M6:e[i].a=(((i-1):Nat):Int):=by omega
   have hfi:=vx (i-1) (by omega)
   refine av (aJ (ah F (ah F (ad (a7 (ez F F (by omega)) (v':=vN (i-1)) (congrArg (Value.int .i64) (by omega))) (ad (cV (i:=(i-1)) bK aO F F (cP (mG 2 F)) (by omega) (by rw[List.length_map];omega)) (ad (cd cS F F (cP (mG 2 F)) (jV (show i-1<fs.length by omega))) (aj F (ae (aJ (ah F (ah F (ak F (bM (v:=vN (fs.getD (i-1) 0)) bK aO F F F (fun z2=>?_))))))))))))))
   refine ak F (bY 3 bK bK aO F F F F (by rw[List.length_map];omega) (by decide) (Src.row (j:=0) F (by simp)) (by simp[dS]) (by omega) (by decide) (by decide) (fun z3 l7=>?_))
   refine aj F (ae (aJ (ad (cx (a:=i) (b:=1) F F (by omega)) (ah F (ae ?_)))))
   have hs:fM v fs e[i]=.ok (fs.getD (i-1) 0):=by unfold fM;simp only[pP];rw[if_neg s_,if_pos tT,if_neg (by omega)]
   exact⟨i+1,by omega,[am z3 l7 3 1 ((aX fs)++[vN (fs.getD (i-1) 0)])],(by exact Sub.d (.d (.d (.k .z)))),fs++[(fs.getD (i-1) 0)],z3,l7,by rw[show aX (fs++[(fs.getD (i-1) 0)])=aX fs++[vN (fs.getD (i-1) 0)]from List.map_append],by omega,by simp[pP],oX jI kY hs,pt pP vx (by omega),(.of F)⟩
  have Tr: ¬cZ e[i].op=1:=by omega
  have tT: ¬cZ e[i].op=1:=by omega
  refine ai (ad (aZ F F) (aj F (ae (aC F (fun hc=>?_) (fun hc=>?_)))))
  ·have Zd:cZ e[i].op=2:=by omega
   have qH:cZ e[i].op=2:=by omega
   have aba:fs.getD (i-1) 0≤i:=by
    by_cases h9:i=0
    ·rw[List.length_eq_zero_iff.1 (show fs.length=0 by omega)];simp
    ·have:=vx (i-1) (by omega);omega
   refine aB (aB ?_)
   refine eD [(0,0),(1,0),(2,0),(3,0),(4,0),(5,0),(6,0),(7,0),(8,0),(9,0),(10,0),(11,0),(12,0),(13,0),(14,0),(15,0),(16,0),(17,0),(18,0),(19,0),(20,0),(21,0),(22,0),(23,0),(24,0),(25,0),(26,0),(27,0)] ?_
   refine ao F (az F) (ao F (aZ F F) ?_)
   by_cases Uq:((i:Nat):Int)=0
   ·refine ao F (aq (az F) (decide_eq_true Uq)) ?_
    refine a6 F F F (a6 F F F (a6 F F F (a6 F F F (a6 F F F (ao F (bu F F) (ao F (az F) (a6 F F F (a6 F F F ?_))))))))
    refine a6 F F F (a6 F F F (a6 F F F (a6 F F F (ao F (bu F F) (ao F (az F) (a6 F F F (a6 F F F (a6 F F F ?_))))))))
    refine a6 F F F (a6 F F F (a6 F F F (a6 F F F (a6 F F F (a6 F F F (ao F (bu F F) ?_))))))
    refine bw ?_
    refine bj F ?_
    refine ai (aj F (aj F (ae (aA (ap ?_)))))
    refine cy nS (vI 8) Tryz.results89 F F ?_
    have hs:fM v fs e[i]=.error 8:=by unfold fM;simp only[pP];first|(rw[if_neg s_,if_pos tT,if_pos (by omega)];done)|(rw[if_neg s_,if_neg tT,if_pos qH,if_pos (by omega)];done)
    exact⟨[],Sub.z,.inl ⟨8,ij jI kY hs,F,F⟩⟩
   refine ao F (aq (az F) (decide_eq_false Uq)) ?_
   refine aS F F F (aN bs F aO F F) ?_
   refine aS F F F (aQ 1 cS F F F F) ?_
   refine aS F F F (az F) ?_
   refine aS F F F (a7 (ez F F (by omega)) (v':=vN (i-1)) (congrArg (Value.int .i64) (by omega))) ?_
   refine aS F F F (cT F F) ?_
   refine ao F (bl F F) ?_
   by_cases Cd:e[i].b≠(((i-1):Nat):Int)
   ·refine ao F (aq (az F) (decide_eq_true Cd)) ?_
    refine a6 F F F (a6 F F F (a6 F F F (a6 F F F (a6 F F F (a6 F F F (ao F (bu F F) (ao F (az F) (a6 F F F ?_))))))))
    refine a6 F F F (a6 F F F (a6 F F F (a6 F F F (a6 F F F (a6 F F F (a6 F F F (a6 F F F ?_)))))))
    refine ao F (bu F F) ?_
    refine bw ?_
    refine bj F ?_
    refine ai (aj F (aj F (ae (aA (ap ?_)))))
    refine cy nS (vI 8) Tryz.results89 F F ?_
    have hs:fM v fs e[i]=.error 8:=by unfold fM;simp only[pP];first|(rw[if_neg s_,if_pos tT,if_pos (by omega)];done)|(rw[if_neg s_,if_neg tT,if_pos qH,if_pos (by omega)];done)
    exact⟨[],Sub.z,.inl ⟨8,ij jI kY hs,F,F⟩⟩
   refine ao F (aq (az F) (decide_eq_false Cd)) ?_
   refine aS F F F (az F) ?_
   refine aS F F F (az F) ?_
   refine aS F F F (a7 (ez F F (by omega)) (v':=vN (i-1)) (congrArg (Value.int .i64) (by omega))) ?_
   refine aS F F F (cV (i:=(i-1)) bK aO F F (cP (mG 2 F)) (by omega) (by rw[List.length_map];omega)) ?_
   refine aS F F F (cd cS F F (cP (mG 2 F)) (jV (show i-1<fs.length by omega))) ?_
   refine aS F F F (aZ F F) ?_
   refine ao F (bl F F) ?_
   by_cases VF:((fs.getD (i-1) 0:Nat):Int)=0
   ·refine ao F (aq (az F) (decide_eq_true VF)) ?_
    refine a6 F F F (a6 F F F (a6 F F F (a6 F F F (a6 F F F (a6 F F F (a6 F F F (a6 F F F ?_)))))))
    refine a6 F F F (ao F (bu F F) ?_)
    refine bw ?_
    refine bj F ?_
    refine ai (aj F (aj F (ae (aA (ap ?_)))))
    refine cy nS (vI 8) Tryz.results89 F F ?_
    have hs:fM v fs e[i]=.error 8:=by unfold fM;simp only[pP];first|(rw[if_neg s_,if_pos tT,if_pos (by omega)];done)|(rw[if_neg s_,if_neg tT,if_pos qH,if_pos (by omega)];done)
    exact⟨[],Sub.z,.inl ⟨8,ij jI kY hs,F,F⟩⟩
   refine ao F (aq (az F) (decide_eq_false VF)) ?_
   refine aS F F F (aN bs F aO F F) ?_
   refine aS F F F (aQ 1 cS F F F F) ?_
   refine aS F F F (az F) ?_
   refine aS F F F (az F) ?_
   refine aS F F F (a7 (ez F F (by omega)) (v':=vN (i-1)) (congrArg (Value.int .i64) (by omega))) ?_
   refine aS F F F (cV (i:=(i-1)) bK aO F F (cP (mG 2 F)) (by omega) (by rw[List.length_map];omega)) ?_
   refine aS F F F (cd cS F F (cP (mG 2 F)) (jV (show i-1<fs.length by omega))) ?_
   refine aS F F F (a7 (ez F F (by omega)) (v':=vN (fs.getD (i-1) 0-1)) (congrArg (Value.int .i64) (by omega))) ?_
   refine aS F F F (cT F F) ?_
   refine ao F (bl F F) ?_
   refine bw ?_
   refine aC F (fun hc=>?_) (fun hc=>?_)
   ·refine aB ?_
    refine aJ (aj F (aj F (ae (aA (ap ?_)))))
    refine cy nS (vI 8) Tryz.results89 F F ?_
    have hs:fM v fs e[i]=.error 8:=by unfold fM;simp only[pP];first|(rw[if_neg s_,if_pos tT,if_pos (by omega)];done)|(rw[if_neg s_,if_neg tT,if_pos qH,if_pos (by omega)];done)
    exact⟨[],Sub.z,.inl ⟨8,ij jI kY hs,F,F⟩⟩
   have M6:e[i].a=(((fs.getD (i-1) 0-1):Nat):Int):=by omega
   have hfi:=vx (i-1) (by omega)
   have VG:=vx (fs.getD (i-1) 0-1) (by omega)
   refine av (aJ (ah F (ad (aN bs F aO F F) (ad (a7 (aQ 1 cS F F F F) (v':=vN (fs.getD (i-1) 0-1)) (by show Value.int _ e[i].a=_;rw[M6])) (ad (cV (i:=(fs.getD (i-1) 0-1)) bK aO F F (cP (mG 2 F)) (by omega) (by rw[List.length_map];omega)) (ad (cd cS F F (cP (mG 2 F)) (jV (show(fs.getD (i-1) 0-1)<fs.length by omega))) (aj F (ae (aJ (ah F (ah F (ak F (bM (v:=vN (fs.getD (fs.getD (i-1) 0-1) 0)) bK aO F F F (fun z5=>?_))))))))))))))
   refine ak F (bY 3 bK bK aO F F F F (by rw[List.length_map];omega) (by decide) (Src.row (j:=0) F (by simp)) (by simp[dS]) (by omega) (by decide) (by decide) (fun z6 DE=>?_))
   refine aj F (ae (aJ (ad (cx (a:=i) (b:=1) F F (by omega)) (ah F (ae ?_)))))
   have hs:fM v fs e[i]=.ok (fs.getD (fs.getD (i-1) 0-1) 0):=by unfold fM;simp only[pP];rw[if_neg s_,if_neg tT,if_pos qH,if_neg (by omega),M6,Int.toNat_natCast]
   exact⟨i+1,by omega,[am z6 DE 3 1 ((aX fs)++[vN (fs.getD (fs.getD (i-1) 0-1) 0)])],(by exact Sub.d (.d (.d (.k .z)))),fs++[(fs.getD (fs.getD (i-1) 0-1) 0)],z6,DE,by rw[show aX (fs++[(fs.getD (fs.getD (i-1) 0-1) 0)])=aX fs++[vN (fs.getD (fs.getD (i-1) 0-1) 0)]from List.map_append],by omega,by simp[pP],oX jI kY hs,pt pP vx (by omega),(.of F)⟩
  have Ur: ¬cZ e[i].op=2:=by omega
  have qH: ¬cZ e[i].op=2:=by omega
  refine av (aJ (ah F (ah F (ak F (bM (v:=vN i) bK aO F F F (fun z8=>?_))))))
  refine ak F (bY 3 bK bK aO F F F F (by rw[List.length_map];omega) (by decide) (Src.row (j:=0) F (by simp)) (by simp[dS]) (by omega) (by decide) (by decide) (fun z9 kF=>?_))
  refine aj F (ae (aJ (ad (cx (a:=i) (b:=1) F F (by omega)) (ah F (ae ?_)))))
  have hs:fM v fs e[i]=.ok i:=by unfold fM;simp only[pP];rw[if_neg s_,if_neg tT,if_neg qH]
  exact⟨i+1,by omega,[am z9 kF 3 1 ((aX fs)++[vN i])],(by exact Sub.d (.d (.d (.k .z)))),fs++[i],z9,kF,by rw[show aX (fs++[i])=aX fs++[vN i]from List.map_append],by omega,by simp[pP],oX jI kY hs,pt pP vx (Nat.le_refl _),(.of F)⟩
 have HD: ¬i<e.length:=by omega
 refine bJ ?_
 refine ai (ah F (aj F (aj F (ae (aA (ap ?_))))))
 refine cy (.slice b i c) (vI 0) Tryz.results89 F F ?_
 have uf:i=e.length:=by omega
 subst uf
 rw[List.take_length]at kY
 exact⟨[am b c 3 1 (aX fs)],(by exact Sub.rf),.inr ⟨fs,b,c,kY,F,F⟩⟩
end Go.Proofs.YtgdbfideeeegmaaGreatDoor

namespace Go.Proofs.YtgdbfideeeegmaaGreatDoor
open Go.Lx Go.RowKit _root_.Go.Proofs.Tryz
theorem L4 (w:World) [cG Tryz.prog w] (eb:Option Addr) (ec:Nat) (e:List dF) (hE:Sl w eb (bg e)) (z2 z8:Nat) (h2:Sl w (aD z2) [.slice eb e.length ec]) (h8:Sl w (aD z8) [(.func (.func 90) #[] #[(cW (aD z2) 0),(cW (aD z8) 0)])]) (i f:Nat) (fr:Bool) (hi:i<e.length) (DN:1≤cZ e[i].op→ ∀w1 [cG Tryz.prog w1],Inv w [] w1→ ∀g:Bool,dn Tryz.prog w1 (.func (.func 90) #[] #[(cW (aD z2) 0),(cW (aD z8) 0)]) [vI e[i].a,.bool g] [] (fun v N=>v=.bool (lg e f e[i].a.toNat g)∧N=[])) (HF:2≤cZ e[i].op→ ∀w1 [cG Tryz.prog w1],Inv w [] w1→ ∀g:Bool,dn Tryz.prog w1 (.func (.func 90) #[] #[(cW (aD z2) 0),(cW (aD z8) 0)]) [vI e[i].b,.bool g] [] (fun v N=>v=.bool (lg e f e[i].b.toNat g)∧N=[])):
  bI Tryz.prog 90 [vN i,.bool fr,(cW (aD z2) 0),(cW (aD z8) 0)] w fun v N=>v=.bool (lg e (f+1) i fr)∧N=[]:=by
 refine aw func90 F ntmps90 F ?_
 refine ai (aj F (ae (ai (ad (cd cN F F (ay h2) F) (ah F (ad (cY (i:=i) cN bN F F (ay hE) hi (by rw[bE];omega)) (ad (dy (vs:=e[i].cl) bs F bN F F (Nat.succ_pos _) (ay hE) (jP hi)) (ak F (aR bN F (fun z1=>?_))))))))))
 refine ak F (a8 (vs:=e[i].cl) 0 bN F F F F ?_)
 refine ae ?_
 let eQ:Lx.Item:=oI z1 72 e[i].cl
 refine e7 (fun ρ O=>Sub [eQ] O∧(¬((e[i].op=9∨e[i].op=10)∧fr=false))∧cw [(0,vN i),(1,.bool fr),(2,(cW (aD z2) 0)),(3,(cW (aD z8) 0)),(7,(.pointer (aD z1)))] ρ) ?_ ?_
 ·refine aB ?_
  refine aJ (ad (aN bs F cI F F) (ad (aQ 0 eu F F F F) (ad (aZ F F) ?_)))
  by_cases h9:((e[i].op:Nat):Int)=9
  ·refine ad (aq (az F) (decide_eq_true h9)) ?_
   refine aF F F (aF F F (aF F F (ad (bu F F) (ah F (au F F (az F) (au F F (gy F) (ad (bu F F) (ae (T.cond F (fun hc=>?_) (fun hc=>?_))))))))))
   ·refine aB ?_
    refine aJ (aj F (ae (aA (ap ?_))))
    refine aE (.bool false) Tryz.results90 F ?_
    exact⟨[],Sub.z,congrArg Value.bool (by rw[kG hi,if_pos ⟨by omega,by simpa using hc⟩]),F⟩
   refine av ?_
   exact⟨(by exact Sub.rf),(fun h=>by rw[h.2]at hc;exact absurd hc (by decide)),(.of F)⟩
  refine ad (aq (az F) (decide_eq_false h9)) (au F F (aN bs F cI F F) (au F F (aQ 0 eu F F F F) (au F F (aZ F F) ?_)))
  by_cases T2:((e[i].op:Nat):Int)=10
  ·refine ad (aq (bl F F) (decide_eq_true T2)) ?_
   refine ah F (au F F (az F) (au F F (gy F) (ad (bu F F) (ae (T.cond F (fun hc=>?_) (fun hc=>?_))))))
   ·refine aB ?_
    refine aJ (aj F (ae (aA (ap ?_))))
    refine aE (.bool false) Tryz.results90 F ?_
    exact⟨[],Sub.z,congrArg Value.bool (by rw[kG hi,if_pos ⟨by omega,by simpa using hc⟩]),F⟩
   refine av ?_
   exact⟨(by exact Sub.rf),(fun h=>by rw[h.2]at hc;exact absurd hc (by decide)),(.of F)⟩
  refine ad (aq (bl F F) (decide_eq_false T2)) (ah F (aF F F (aF F F (ad (bl F F) (ae (aL F (av ?_)))))))
  exact⟨(by exact Sub.rf),(fun h=>absurd h.1 (by omega)),(.of F)⟩
 rintro ρ O ⟨hS,VH,hH⟩
 obtain⟨fE,rfl⟩:=hH.elim
 clear hH
 refine ck hS ?_
 refine e7 (fun ρ O=>Sub [eQ] O∧cw [(0,vN i),(1,.bool (fr&&decide (e[i].op=4∨e[i].op=5))),(2,(cW (aD z2) 0)),(3,(cW (aD z8) 0)),(7,(.pointer (aD z1)))] ρ) ?_ ?_
 ·refine aJ ?_
  by_cases HG:fr=true
  ·refine ad (aq (az F) (HG)) ?_
   refine ah F (au F F (aN bs F cI F F) (au F F (aQ 0 eu F F F F) (au F F (aZ F F) ?_)))
   by_cases h4:((e[i].op:Nat):Int)=4
   ·refine au F F (aq (az F) (decide_eq_true h4)) ?_
    refine aF F F (aF F F (aF F F (au F F (bu F F) (ad (bu F F) (aj F (ae ?_))))))
    exact⟨(by exact Sub.rf),⟨F,(congrArg Value.bool (by rw[HG,decide_eq_true (show e[i].op=4∨e[i].op=5 by omega)];rfl)),F,F,F,trivial⟩⟩
   refine au F F (aq (az F) (decide_eq_false h4)) (au F F (aN bs F cI F F) (au F F (aQ 0 eu F F F F) (au F F (aZ F F) (au F F (bl F F) (ad (bu F F) (aj F (ae ?_)))))))
   exact⟨(by exact Sub.rf),⟨F,(congrArg Value.bool (by rw[HG,Bool.true_and];exact decide_eq_decide.2 (by omega))),F,F,F,trivial⟩⟩
  refine ad (aq (az F) (Bool.eq_false_iff.2 HG)) (ah F (aF F F (aF F F (aF F F (aF F F (aF F F (aF F F (aF F F ?_))))))))
  refine aF F F (ad (bl F F) (aj F (ae ?_)))
  exact⟨(by exact Sub.rf),⟨F,(congrArg Value.bool (by rw[Bool.eq_false_iff.2 HG];rfl)),F,F,F,trivial⟩⟩
 rintro ρ O ⟨hS,hH⟩
 obtain⟨fE,rfl⟩:=hH.elim
 clear hH
 refine ck hS ?_
 refine aB ?_
 refine eD [(1,0),(2,0),(0,1),(3,2),(4,2),(5,2)] ?_
 refine ao F (aN bs F cI F F) (ao F (aQ 0 eu F F F F) ?_)
 have Ar:=fun(w1:World) (hI:Inv w [eQ] w1)=>(haveI:=di hI;nm w1)
 refine bo F F (aP Ed (aI Ar) F ?_)
 clear Ar
 rintro vr O' ⟨N,rfl,m,rfl,rfl⟩
 refine⟨by exact Sub.d (.k .z),?_⟩
 refine bq F F (dw F F (a7 (oh (a:=e[i].op) tY jL (eN.u8 eu) F F (mG 0 F)) (v':=(.agg #[vN (cZ e[i].op),str (gP e[i].op).1,str (gP e[i].op).2.1,str (gP e[i].op).2.2])) (rz e[i].op)) ?_)
 refine bq F F (dw F F (DB Ba F cS F F F) ?_)
 refine bq F F (dw F F (bt F) ?_)
 refine bw ?_
 refine ai (ah F (ad (bT F F) ?_))
 by_cases ww:((cZ e[i].op:Nat):Int)<1
 ·refine ad (aq (az F) (decide_eq_true ww)) ?_
  refine aF F F (aF F F (aF F F (aF F F (aF F F (ad (bu F F) (ah F (au F F (az F) (au F F (aq (bT F F) (decide_eq_true (by omega))) ?_))))))))
  refine au F F (az F) (aF F F (aF F F (aF F F (aF F F (aF F F (au F F (bu F F) (ad (bu F F) (aj F ?_))))))))
  refine ae (aA (ap ?_))
  refine aE (.bool true) Tryz.results90 F ?_
  exact⟨[],Sub.z,congrArg Value.bool (by rw[kG hi,if_neg VH,decide_eq_true (show cZ e[i].op<1 by omega),decide_eq_true (show cZ e[i].op<2 by omega)];rfl),F⟩
 refine ad (aq (az F) (decide_eq_false ww)) (au F F (cd I1 F F (ay h8) F) (au F F (aN bs F aO F F) (au F F (aQ 1 cS F F F F) (au F F (az F) ?_))))
 have Us:=(cD (base:=w) (O:=[A_ m,eQ]) fun w1 hI=>haveI:=di hI;haveI:=di hI;DN (by omega) w1 hI.kw (fr&&decide (e[i].op=4∨e[i].op=5)))
 refine fU F F F (dx Us F F ?_)
 clear Us
 rintro vr O' ⟨N,rfl,rfl,rfl⟩
 refine ad (bl F F) ?_
 by_cases Ut:(lg e f e[i].a.toNat (fr&&decide (e[i].op=4∨e[i].op=5)))=true
 ·refine ad (aq (az F) (Ut)) ?_
  refine au F F (az F) (au F F (bT F F) ?_)
  by_cases pO:((cZ e[i].op:Nat):Int)<2
  ·refine au F F (aq (az F) (decide_eq_true pO)) ?_
   refine aF F F (aF F F (aF F F (aF F F (aF F F (au F F (bu F F) (ad (bu F F) (aj F (ae (aA (ap ?_))))))))))
   refine aE (.bool true) Tryz.results90 F ?_
   exact⟨[],Sub.z,congrArg Value.bool (by rw[kG hi,if_neg VH,decide_eq_false (show¬cZ e[i].op<1 by omega),Ut,decide_eq_true (show cZ e[i].op<2 by omega)];rfl),F⟩
  refine au F F (aq (az F) (decide_eq_false pO)) (au F F (cd I1 F F (ay h8) F) (au F F (aN bs F aO F F) (au F F (aQ 1 cS F F F F) (au F F (az F) ?_))))
  have GU:=(cD (base:=w) (O:=[A_ m,eQ]) fun w1 hI=>haveI:=di hI;haveI:=di hI;HF (by omega) w1 hI.kw (fr&&decide (e[i].op=4∨e[i].op=5)))
  refine fU F F F (dx GU F F ?_)
  clear GU
  rintro vr O' ⟨N,rfl,rfl,rfl⟩
  refine au F F (bl F F) (ad (bu F F) (aj F (ae (aA (ap ?_)))))
  refine aE (.bool (lg e f e[i].b.toNat (fr&&decide (e[i].op=4∨e[i].op=5)))) Tryz.results90 F ?_
  exact⟨[],Sub.z,congrArg Value.bool (by rw[kG hi,if_neg VH,decide_eq_false (show¬cZ e[i].op<1 by omega),Ut,decide_eq_false (show¬cZ e[i].op<2 by omega)];rfl),F⟩
 refine ad (aq (az F) (Bool.eq_false_iff.2 Ut)) (aF F F (aF F F (aF F F (aF F F (aF F F (aF F F (aF F F ?_)))))))
 refine aF F F (aF F F (ad (bl F F) (aj F (ae (aA (ap ?_))))))
 refine aE (.bool false) Tryz.results90 F ?_
 exact⟨[],Sub.z,congrArg Value.bool (by rw[kG hi,if_neg VH,decide_eq_false (show¬cZ e[i].op<1 by omega),Bool.eq_false_iff.2 Ut];rfl),F⟩
def I2 (e:List dF):Prop:= ∀i (h:i<e.length),(1≤cZ e[i].op→ ∃j:Nat,e[i].a=(j:Int)∧j<i)∧(2≤cZ e[i].op→ ∃j:Nat,e[i].b=(j:Int)∧j<i)
set_option maxRecDepth 20000 in
theorem Qt (w:World) [cG Tryz.prog w] (eb:Option Addr) (ec:Nat) (e:List dF) (hE:Sl w eb (bg e)) (z2 z8:Nat) (h2:Sl w (aD z2) [.slice eb e.length ec]) (h8:Sl w (aD z8) [(.func (.func 90) #[] #[(cW (aD z2) 0),(cW (aD z8) 0)])]) (ht:I2 e): ∀(f i:Nat) (hi:i<e.length) (hf:i<f) (fr:Bool),
  bI Tryz.prog 90 [vN i,.bool fr,(cW (aD z2) 0),(cW (aD z8) 0)] w fun v N=>v=.bool (lg e f i fr)∧N=[]
 |0,i,hi,hf,fr=>absurd hf (by omega)
 |f+1,i,hi,hf,fr=>L4 w eb ec e hE z2 z8 h2 h8 i f fr hi (fun Vs w1 _ hI g=>by
   obtain⟨j,hj,Dq⟩:=(ht i hi).1 Vs
   rw[hj,Int.toNat_natCast]
   exact bQ (first:=[]) (args:=[vN j,.bool g]) (eY:=[(cW (aD z2) 0),(cW (aD z8) 0)]) I3 (Qt w1 eb ec e (hI.sl hE) z2 z8 (hI.sl h2) (hI.sl h8) ht f j (by omega) (by omega) g)) (fun Vs w1 _ hI g=>by
   obtain⟨j,hj,Dq⟩:=(ht i hi).2 Vs
   rw[hj,Int.toNat_natCast]
   exact bQ (first:=[]) (args:=[vN j,.bool g]) (eY:=[(cW (aD z2) 0),(cW (aD z8) 0)]) I3 (Qt w1 eb ec e (hI.sl hE) z2 z8 (hI.sl h2) (hI.sl h8) ht f j (by omega) (by omega) g))
end Go.Proofs.YtgdbfideeeegmaaGreatDoor

namespace Go.Lx
open Go.RowKit Go.Proofs.YtgdbfideeeegmaaGreatDoor
theorem rC {v b:Nat} {fs:List Nat} {x:dF} (hb: ∀j,j<fs.length→fs.getD j 0≤j) (h:fM v fs x=.ok b):
  b≤fs.length∧fR v x=0∧(cZ x.op=1→0<fs.length∧x.a=(fs.length:Int)-1∧b=fs.getD (fs.length-1) 0)∧
  (cZ x.op=2→0<fs.length∧x.b=(fs.length:Int)-1∧0<fs.getD (fs.length-1) 0∧x.a=(fs.getD (fs.length-1) 0:Int)-1∧b=fs.getD x.a.toNat 0)∧(cZ x.op=0→b=fs.length):=by
 unfold fM at h
 split at h
 ·cases h
 ·rename_i h0
  have Xd:fR v x=0:=by omega
  split at h
  ·rename_i h1
   split at h
   ·cases h
   ·rename_i h2
    injection h with h
    have:=hb (fs.length-1) (by omega)
    exact⟨by omega,Xd,fun _=>⟨by omega,by omega,h.symm⟩,fun h9=>by omega,fun h9=>by omega⟩
  ·rename_i h1
   split at h
   ·rename_i h2
    split at h
    ·cases h
    ·rename_i h3
     injection h with h
     have h4:=hb (fs.length-1) (by omega)
     have h5:x.a.toNat<fs.length:=by omega
     have h6:=hb _ h5
     exact⟨by omega,Xd,fun h9=>by omega,fun _=>⟨by omega,by omega,by omega,by omega,h.symm⟩,fun h9=>by omega⟩
   ·injection h with h
    exact⟨by omega,Xd,fun h9=>by omega,fun h9=>by omega,fun _=>h.symm⟩
theorem L_ (n:Nat):cZ n≤2:=by unfold cZ;split<;>(try split)<;>omega
theorem nf {v:Nat} {e:List dF} {fs:List Nat} (h:iw v e=.ok fs): ∀i,i≤e.length→ ∃gs,iw v (e.take i)=.ok gs∧gs.length=i∧(∀j,j<i→gs.getD j 0≤j)∧gs=fs.take i
 |0,_=>⟨[],F,F,fun j hj=>by omega,by simp⟩
 |i+1,hi=>by
  obtain⟨gs,h1,h2,h3,h4⟩:=nf h i (by omega)
  have eV:i<e.length:=by omega
  cases hs:fM v gs e[i]with
  |error n=>rw[ij eV h1 hs]at h;cases h
  |ok b=>
   have hn:=oX eV h1 hs
   have hb:=rC (by rw[h2];exact h3) hs
   refine⟨gs++[b],hn,by simp[h2],pt h2 h3 (by omega),?_⟩
   have hp: ∀(l:List dF) (a:List Nat) (c:List Nat),l.foldl (rA v) (.ok a)=.ok c→a<+:c:=by
    intro l
    induction l with
    |nil=>intro a c h;injection h with h;subst h;exact List.prefix_refl _
    |cons x l ih=>
     intro a c h
     rw[List.foldl_cons]at h
     cases hx:rA v (.ok a) x with
     |error n=>rw[hx,rB]at h;cases h
     |ok a2=>
      rw[hx]at h
      have h5:=ih a2 c h
      have h6:a<+:a2:=by
       unfold rA at hx
       cases hy:fM v a x with
       |error n=>simp only[hy]at hx;cases hx
       |ok b2=>simp only[hy]at hx;injection hx with hx;subst hx;exact List.prefix_append _ _
      exact h6.trans h5
   have h7:(gs++[b])<+:fs:=by
    have h8:iw v e=(e.drop (i+1)).foldl (rA v) (iw v (e.take (i+1))):=by
     conv=>lhs;rw[←List.take_append_drop (i+1) e]
     unfold iw;rw[List.foldl_append]
    rw[h8,hn]at h
    exact hp _ _ _ h
   have:=List.prefix_iff_eq_take.1 h7
   simpa[h2]using this
theorem oA {v:Nat} {e:List dF} {fs:List Nat} (h:iw v e=.ok fs):I2 e:=fun i hi=>by
 obtain⟨gs,h1,h2,h3,_⟩:=nf h i (Nat.le_of_lt hi)
 cases hs:fM v gs e[i]with
 |error n=>rw[ij hi h1 hs]at h;cases h
 |ok b=>
  obtain⟨_,_,k1,k2,_⟩:=rC (by rw[h2];exact h3) hs
  have hc:=L_ e[i].op
  refine⟨fun hh=>?_,fun hh=>?_⟩
  ·by_cases h5:cZ e[i].op=1
   ·have:=k1 h5;exact⟨i-1,by omega,by omega⟩
   ·have:=k2 (by omega)
    have h6:=h3 (gs.length-1) (by omega)
    exact⟨gs.getD (gs.length-1) 0-1,by omega,by omega⟩
  ·have:=k2 (by omega);exact⟨i-1,by omega,by omega⟩
theorem yO {v n:Nat}: ∀ {e:List dF} {a:List Nat},e.foldl (rA v) (.ok a)=.error n→n≠0
 | [],a,h=>by cases h
 |x::e,a,h=>by
  rw[List.foldl_cons]at h
  cases hs:fM v a x with
  |error k=>
   have hk:rA v (.ok a) x=.error k:=by unfold rA;simp only[hs]
   rw[hk,rB]at h
   injection h with h
   subst h
   unfold fM at hs
   split at hs
   ·injection hs with hs;omega
   ·split at hs
    ·split at hs
     ·injection hs with hs;omega
     ·cases hs
    ·split at hs
     ·split at hs
      ·injection hs with hs;omega
      ·cases hs
     ·cases hs
  |ok b=>
   have hk:rA v (.ok a) x=.ok (a++[b]):=by unfold rA;simp only[hs]
   rw[hk]at h
   exact yO h
def iD (vars:Int) (e:List dF):Nat:=
 if vars<0∨6<vars then 7 else if e.length=0 then 3 else if 64<e.length then 4 else
  match iw vars.toNat e with
  | .error n=>n
  | .ok fs=>if fs.getD (e.length-1) 0≠0 then 2 else if lg e e.length (e.length-1) true=true then 0 else 2
end Go.Lx

namespace Go.Proofs.YtgdbfideeeegmaaGreatDoor
open Go.Lx Go.RowKit _root_.Go.Proofs.Tryz
theorem L5 (w:World) [cG Tryz.prog w] (eb:Option Addr) (ec:Nat) (e:List dF) (hE:Sl w eb (bg e)) (CX:e.length≤64) (nK: ∀x∈e,x.p<256∧x.n<256) (v:Nat) (hv:v≤6):
  bI Tryz.prog 89 [.slice eb e.length ec,vN v] w fun r N=> ∃(b:Option Addr) (c er:Nat) (fs:List Nat),r=.tuple #[.slice b fs.length c,vI (er:Int)]∧N=[am b c 3 1 (aX fs)]∧((iw v e=.error er∧er≠0)∨(iw v e=.ok fs∧er=0∧fs.length=e.length)):=by
 refine(eK 3 1 (L3 w eb ec e hE CX nK v hv)).post ?_
 rintro r O' ⟨O2,rfl,⟨n,h1,rfl,rfl⟩|⟨fs,b,c,h1,rfl,rfl⟩⟩
 ·exact⟨_,Sub.rf,none,0,n,[],F,F,.inl ⟨h1,yO h1⟩⟩
 ·obtain⟨gs,h2,h3,_,_⟩:=nf h1 e.length (Nat.le_refl _)
  rw[List.take_length]at h2
  rw[h2]at h1
  injection h1 with h1
  subst h1
  exact⟨_,ar [1] F,b,c,0,gs,by rw[h3];rfl,F,.inr ⟨h2,F,h3⟩⟩
theorem Qu (w:World) [cG Tryz.prog w] (eb:Option Addr) (ec:Nat) (e:List dF) (hE:Sl w eb (bg e)) (CX:e.length<4611686018427387904) (nK: ∀x∈e,x.p<256∧x.n<256) (vars:Int):
  bI Tryz.prog 54 [.slice eb e.length ec,vI vars] w fun r N=> ∃b n c,r=.tuple #[.slice b n c,vI (iD vars e:Int)]∧N=[]:=by
 refine aw func54 F ntmps54 F ?_
 let jj:Value:=(.slice eb e.length ec)
 refine ai (ak F (cH (cs:=[jj]) F F (fun z1=>?_)))
 refine aj F (aj F (ae (aB (aG (ai (ah F (ad (bT F F) ?_)))))))
 by_cases KC:vars<0
 ·refine ad (aq (az F) (decide_eq_true KC)) ?_
  refine aF F F (aF F F (ad (bu F F) (aj F (ae ?_))))
  refine bj F ?_
  refine ai (aj F (aj F (ae (aA (ap ?_)))))
  refine cy nS (vI 7) Tryz.results54 F F ?_
  have e9:iD vars e=7:=by unfold iD;rw[if_pos (by omega)]
  exact⟨[],Sub.z,none,0,0,(by first|(rw[e9];done)|(rw[e9];rfl)),F⟩
 refine ad (aq (az F) (decide_eq_false KC)) (au F F (az F) (au F F (fW F F) (ad (bl F F) (aj F (ae (aC F (fun hc=>?_) (fun hc=>?_)))))))
 ·have Qv:vars<0∨6<vars:=by omega
  refine ai (aj F (aj F (ae (aA (ap ?_)))))
  refine cy nS (vI 7) Tryz.results54 F F ?_
  have e9:iD vars e=7:=by unfold iD;rw[if_pos (by omega)]
  exact⟨[],Sub.z,none,0,0,(by first|(rw[e9];done)|(rw[e9];rfl)),F⟩
 have Qv: ¬(vars<0∨6<vars):=by omega
 obtain⟨v,hvv⟩: ∃v:Nat,vars=(v:Int):=⟨vars.toNat,by omega⟩
 have Od:v≤6:=by omega
 have VI:vars.toNat=v:=by omega
 refine ai (ad (aQ 0 cN F F F F) (ad (bS cN F) (ad (aZ F F) (aj F (ae (aC F (fun hc=>?_) (fun hc=>?_)))))))
 ·have AS:e.length=0:=by omega
  have Fk:e.length=0:=by omega
  refine ai (aj F (aj F (ae (aA (ap ?_)))))
  refine cy nS (vI 3) Tryz.results54 F F ?_
  have e9:iD vars e=3:=by unfold iD;rw[if_neg Qv,if_pos Fk]
  exact⟨[],Sub.z,none,0,0,(by first|(rw[e9];done)|(rw[e9];rfl)),F⟩
 have TE: ¬e.length=0:=by omega
 have Fk: ¬e.length=0:=by omega
 refine ai (ad (aQ 0 cN F F F F) (ad (bS cN F) (ad (fW F F) (aj F (ae (aC F (fun hc=>?_) (fun hc=>?_)))))))
 ·have xA:e.length>64:=by omega
  have Ct:64<e.length:=by omega
  refine ai (aj F (aj F (ae (aA (ap ?_)))))
  refine cy nS (vI 4) Tryz.results54 F F ?_
  have e9:iD vars e=4:=by unfold iD;rw[if_neg Qv,if_neg Fk,if_pos Ct]
  exact⟨[],Sub.z,none,0,0,(by first|(rw[e9];done)|(rw[e9];rfl)),F⟩
 have TP: ¬e.length>64:=by omega
 have Ct: ¬64<e.length:=by omega
 refine av (ai (ad (aQ 0 cN F F F F) (ad (a7 (az F) (v':=vN v) (by show Value.int .i64 vars=_;rw[hvv])) ?_)))
 have re:=fun(w1:World) (hI:Inv w [oI z1 32 [jj]] w1)=>(haveI:=di hI;L5 w1 eb ec e (hI.sl hE) (by omega) nK v Od)
 refine ak F (aP Uu (aI re) F ?_)
 clear re
 rintro vr O' ⟨N,rfl,b,c,er,fs,rfl,rfl,ND⟩
 refine ah F (ad (aV (vs:=_) F F) (ad (aV (vs:=_) F F) (aj F (aj F (ae (aB (ai (ah F (ad (cT F F) (ae (aC F (fun hc=>?_) (fun hc=>?_))))))))))))
 ·have Ze:er≠0:=by omega
  have W_:er≠0:=by omega
  have hbe:iw v e=.error er:=ND.elim (fun h=>h.1) (fun h=>absurd h.2.1 W_)
  refine ai (ah F (aj F (aj F (ae (aA (ap ?_))))))
  refine cy nS (vN er) Tryz.results54 F F ?_
  have e9:iD vars e=er:=by unfold iD;rw[if_neg Qv,if_neg Fk,if_neg Ct,VI,hbe]
  exact⟨[],Sub.z,none,0,0,(by first|(rw[e9];done)|(rw[e9];rfl)),F⟩
 have Zf: ¬er≠0:=by omega
 have W_:er=0:=by omega
 obtain⟨VJ,_,pP⟩:=ND.resolve_left (fun h=>h.2 W_)
 refine av (aB (ai (ah F (ad (aQ 1 cN F F F F) (ad (bS cN F) (ad (a7 (ez F F (by omega)) (v':=vN (e.length-1)) (congrArg (Value.int .i64) (by omega))) (ad (cV (i:=(e.length-1)) bK aO F F (cP (mG 0 F)) (by omega) (by rw[List.length_map];omega)) (ad (cd cS F F (cP (mG 0 F)) (jV (show e.length-1<fs.length by omega))) (ad (cT F F) (ae (aC F (fun hc=>?_) (fun hc=>?_))))))))))))
 ·have xB:(fs.getD (e.length-1) 0)≠0:=by omega
  have O4:fs.getD (e.length-1) 0≠0:=by omega
  refine ai (aj F (aj F (ae (aA (ap ?_)))))
  refine cy nS (vI 2) Tryz.results54 F F ?_
  have e9:iD vars e=2:=by unfold iD;rw[if_neg Qv,if_neg Fk,if_neg Ct,VI,VJ];show(if _ then _ else _)=_;first|(rw[if_pos O4];done)|(rw[if_neg O4,if_neg Uk];done)
  exact⟨[],Sub.z,none,0,0,(by first|(rw[e9];done)|(rw[e9];rfl)),F⟩
 have TT: ¬(fs.getD (e.length-1) 0)≠0:=by omega
 have O4: ¬fs.getD (e.length-1) 0≠0:=by omega
 refine av (ai (ak F (aR I4 F (fun z2=>?_))))
 let eQ:Value:=(.func (.func 90) #[] #[(.pointer (aD z1)),(.pointer (aD z2))])
 refine ae (ai (ad (dQ) (ak F (a8 (vs:=[eQ]) 0 I4 F F F F ?_))))
 refine ae (aB (ai (ad (aQ 0 I1 F F F F) (ad (aQ 2 cN F F F F) (ad (bS cN F) (ad (a7 (ez F F (by omega)) (v':=vN (e.length-1)) (congrArg (Value.int .i64) (by omega))) ?_))))))
 have Uv:=(cD (base:=w) (O:=[oI z2 140 [eQ],am b c 3 1 (aX fs),oI z1 32 [jj]]) fun w1 hI=>haveI:=di hI;haveI:=di hI;bQ (first:=[]) (args:=[vN (e.length-1),.bool true]) (eY:=[(cW (aD z1) 0),(cW (aD z2) 0)]) I3 (Qt w1 eb ec e (hI.sl hE) z1 z2 (hI.iG (mG 2 F)) (hI.iG (mG 0 F)) (oA VJ) e.length (e.length-1) (by omega) (by omega) true))
 refine ak F (dx Uv F F ?_)
 clear Uv
 rintro vr O' ⟨N,rfl,rfl,rfl⟩
 refine ad (gy F) (ae (T.cond F (fun hc=>?_) (fun hc=>?_)))
 ·have Uk: ¬lg e e.length (e.length-1) true=true:=by simpa using hc
  refine ai (aj F (aj F (ae (aA (ap ?_)))))
  refine cy nS (vI 2) Tryz.results54 F F ?_
  have e9:iD vars e=2:=by unfold iD;rw[if_neg Qv,if_neg Fk,if_neg Ct,VI,VJ];show(if _ then _ else _)=_;first|(rw[if_pos O4];done)|(rw[if_neg O4,if_neg Uk];done)
  exact⟨[],Sub.z,none,0,0,(by first|(rw[e9];done)|(rw[e9];rfl)),F⟩
 have Uk:lg e e.length (e.length-1) true=true:=by simpa using hc
 refine av (ai (ah F (aj F (aj F (ae (aA (ap ?_)))))))
 refine cy (.slice b fs.length c) (vI 0) Tryz.results54 F F ?_
 have e9:iD vars e=0:=by unfold iD;rw[if_neg Qv,if_neg Fk,if_neg Ct,VI,VJ];show(if _ then _ else _)=_;rw[if_neg O4,if_pos Uk]
 exact⟨[],Sub.z,b,fs.length,c,(by first|(rw[e9];done)|(rw[e9];rfl)),F⟩
theorem Ee (w:World) [cG Tryz.prog w] (eb:Option Addr) (ec:Nat) (e:List dF) (hE:Sl w eb (bg e)) (CX:e.length<4611686018427387904) (nK: ∀x∈e,x.p<256∧x.n<256) (vars:Int):
  bI Tryz.prog 28 [.slice eb e.length ec,vI vars] w fun r N=>r=vI (iD vars e:Int)∧N=[]:=by
 refine aw func28 F ntmps28 F ?_
 refine ai (aj F (ae (ai (ah F (ah F ?_)))))
 have oB:=fun(w1:World) (hI:Inv w [] w1)=>(haveI:=di hI;Qu w1 eb ec e (hI.sl hE) CX nK vars)
 refine ak F (aP Uw (aI oB) F ?_)
 clear oB
 rintro vr O' ⟨N,rfl,b,n,c,rfl,rfl⟩
 refine ah F (ad (aV (vs:=_) F F) (ad (aV (vs:=_) F F) (aj F (aj F (ae (ai (ah F (aj F (ae (aA (ap ?_)))))))))))
 refine aE (vI (iD vars e:Int)) Tryz.results28 F ?_
 exact⟨[],Sub.z,F,F⟩
end Go.Proofs.YtgdbfideeeegmaaGreatDoor


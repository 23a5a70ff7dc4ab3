/- Contracts of functions of the program, and what they answer. Conditions: those each theorem names. -/
import Derived.Test.YtgdbfideeeegmaaGreatDoorA2
import Derived.Test.YtgdbfideeeegmaaGreatDoorA5
import Derived.Test.YtgdbfideeeegmaaGreatDoorA9
import Derived.Test.YtgdbfideeeegmaaGreatDoorB0
import Derived.Laws.StructEq
import Derived.ChangeKeysEq
import Derived.Test.YtgdbfideeeegmaaGreatDoorA0
set_option linter.unusedSectionVars false
set_option linter.unusedSimpArgs false
set_option linter.unusedVariables false
set_option linter.unnecessarySimpa false
set_option maxHeartbeats 8000000
set_option maxRecDepth 20000
namespace Go.Proofs.YtgdbfideeeegmaaGreatDoor
open Go.Lx Go.RowKit _root_.Go.Proofs.Tryz
theorem KY (w:World) [dB Tryz.prog w] (y:eE):
  cA Tryz.prog 71 [y.ag] w fun v N=>v=.bool (h_ y)∧N=[]:=by
 refine aG func71 F ntmps71 F ?_
 refine ai (ao F (dE (cs:=y.cl) F F (fun z1=>?_)))
 refine aj F (ae (ai (ad (bj cp F dF F F) (ad (bn 0 fF F F F F) (ad (bM F F) ?_)))))
 by_cases h9:((y.op:Nat):Int)=9
 ·refine ad (aA (aK F) (av h9)) ?_
  refine aS F F (aS F F (aS F F (ad (cg F F) (aj F (ae (aN (az ?_)))))))
  refine aT (.bool true) Tryz.results71 F ?_
  exact⟨[],Sub.z,ax Value.bool (by unfold h_;rw[av (show y.op=9 by omega),Bool.true_or]),F⟩
 refine ad (aA (aK F) (ak h9)) (aB F F (bj cp F dF F F) (aB F F (bn 0 fF F F F F) (aB F F (bM F F) (ad (b_ F F) (aj F (ae (aN (az ?_))))))))
 refine aT (.bool (decide (((y.op:Nat):Int)=10))) Tryz.results71 F ?_
 exact⟨[],Sub.z,ax Value.bool (by unfold h_;rw[ak (show¬y.op=9 by omega),Bool.false_or];exact decide_eq_decide.2 (by omega)),F⟩
def KZ (ls:List Lf) (w:World) (k:Key) (r:SR):Prop:= ∃(s:St) (l:List CR) (bb cb:Option Addr) (bc cc:Nat),kV ls s∧k=s.key∧s.cf=l.map CR.cf∧r.a=.slice bb s.bh.length bc∧r.b=.slice cb l.length cc∧
 ((∃(c1 c2:Nat) (p:List OB),r.kL=[aq bb c1 3 1 (bU s.bh),aq cb c2 169 3 (du l)]++fZ 173 p∧ ∀y∈l,lZ p y.r)∨(r.kL=[]∧Sl w bb (bU s.bh)∧Sl w cb (du l)∧ ∀y∈l,Sl w y.r.b (fA y.r.o)))
theorem KZ.one {ls:List Lf} {w:World} {k:Key} {r:SR} (h:KZ ls w k r):fu r.a=true∧fu r.b=true:=by
 obtain⟨s,l,bb,cb,bc,cc,_,_,_,h1,h2,_⟩:=h
 rw[h1,h2];exact⟨F,F⟩
theorem KZ.sl {ls:List Lf} {w w1:World} {kL:List Lx.Item} {bb cb:Option Addr} {bh:List Nat} {l:List CR} (hI:Inv w [] w1) (h:(∃(c1 c2:Nat) (p:List OB),kL=[aq bb c1 3 1 (bU bh),aq cb c2 169 3 (du l)]++fZ 173 p∧ ∀y∈l,lZ p y.r)∨(kL=[]∧Sl w bb (bU bh)∧Sl w cb (du l)∧ ∀y∈l,Sl w y.r.b (fA y.r.o))) (fC: ∀it∈kL,it.P w1):Sl w1 bb (bU bh)∧Sl w1 cb (du l)∧ ∀y∈l,Sl w1 y.r.b (fA y.r.o):=by
 rcases h with⟨c1,c2,p,he,hp⟩|⟨_,h1,h2,h3⟩
 ·refine⟨rowP.sl (fC (aq bb c1 3 1 (bU bh)) (by rw[he];simp)),rowP.sl (fC (aq cb c2 169 3 (du l)) (by rw[he];simp)),fun y hy=>?_⟩
  rcases hp y hy with h|h
  ·exact rowP.sl (fC (OB.sM 173 y.r) (by rw[he];exact am _ (List.mem_map.2 ⟨_,h,F⟩)))
  ·rw[h];exact fun i hi=>absurd hi (by simp[fA])
 ·exact⟨hI.sl h1,hI.sl h2,fun y hy=>hI.sl (h3 y hy)⟩
set_option maxRecDepth 20000 in
theorem WQ (w:World) [dB Tryz.prog w] (ob:Nat) (lb:Option Addr) (lc:Nat) (cv fv:Value) (ls:List Lf) (ks:List LK) (ho:kU w ob lb lc cv fv ls ks) (vs:Nat) (hG:ji ls vs) {K:Nat} (hK:qu ls K) (xI:K<137438953472) (gq:vs≤6) (w1:World) [dB Tryz.prog w1] (hI:Inv w [] w1) (k:Key) (r:SR) (hR:KZ ls w k r) (fC: ∀it∈r.kL,it.P w1):eK Tryz.prog w1 (.func (.func 76) #[(d_ (aD ob) 0)] #[]) [.agg #[r.a,r.b]] [] (fun v O'=>v=str k∧O'=[]):=by
 obtain⟨s,l,bb,cb,bc,cc,hs,rfl,IB,e1,e2,hm⟩:=hR
 obtain⟨hb,hl,CH⟩:=KZ.sl (ls:=ls) hI hm fC
 have hg: ∀y∈l,jv ls y.cf:=fun y hy=>hs.cf _ (by rw[IB];exact List.mem_map_of_mem hy)
 have HK:l.length≤K:=by
  have:=hK s.cf hs.nd hs.cf;rw[IB,ar]at this;exact this
 rw[e1,e2]
 refine(cQ (first:=[(d_ (aD ob) 0)]) (args:=[(.agg #[.slice bb s.bh.length bc,.slice cb l.length cc])]) (gv:=[]) WR (WF w1 (d_ (aD ob) 0) bb bc s.bh hb (by have:=hs.bh.len;have:=hG.len;omega) (hs.bh.num hG) cb cc l hl (by omega) hG hg (fun y hy=>by
  have:=hG.len
  rcases hg y hy with⟨_,_,h⟩|⟨q,_,hq,_,h⟩
  ·have:=h.len;show y.cf.o.length≤12;omega
  ·have:=h.len;show y.cf.o.length≤12;omega) CH)).mono ?_
 rintro v O' ⟨rfl,rfl⟩
 rw[←IB];exact⟨F,F⟩
set_option maxRecDepth 20000 in
theorem WS (w:World) [dB Tryz.prog w] (ob:Nat) (lb:Option Addr) (lc:Nat) (cv fv:Value) (ls:List Lf) (ks:List LK) (ho:kU w ob lb lc cv fv ls ks) (vs:Nat) (hG:ji ls vs) {K:Nat} (hK:qu ls K) (xI:K<137438953472) (gq:vs≤6) (w1:World) [dB Tryz.prog w1] (hI:Inv w [] w1) (k:Key) (r:SR) (hR:KZ ls w k r) (fC: ∀it∈r.kL,it.P w1):eK Tryz.prog w1 (.func (.func 78) #[(d_ (aD ob) 0)] #[]) [.agg #[r.a,r.b]] [] (fun v O'=>v=.bool (HL (kV ls) St.key sf k)∧O'=[]):=by
 obtain⟨s,l,bb,cb,bc,cc,hs,rfl,IB,e1,e2,hm⟩:=hR
 obtain⟨hb,hl,CH⟩:=KZ.sl (ls:=ls) hI hm fC
 have hg: ∀y∈l,jv ls y.cf:=fun y hy=>hs.cf _ (by rw[IB];exact List.mem_map_of_mem hy)
 have HK:l.length≤K:=by
  have:=hK s.cf hs.nd hs.cf;rw[IB,ar]at this;exact this
 rw[e1,e2]
 rw[AE (F1 hG) hs]
 refine(cQ (first:=[(d_ (aD ob) 0)]) (args:=[(.agg #[.slice bb s.bh.length bc,.slice cb l.length cc])]) (gv:=[]) WT (Of w1 (d_ (aD ob) 0) s.bh (.slice bb s.bh.length bc) cb cc l hl (by omega))).mono ?_
 rintro v O' ⟨rfl,rfl⟩
 rw[←IB];exact⟨F,F⟩
set_option maxRecDepth 20000 in
theorem WU (w:World) [dB Tryz.prog w] (ob:Nat) (lb:Option Addr) (lc:Nat) (cv fv:Value) (ls:List Lf) (ks:List LK) (ho:kU w ob lb lc cv fv ls ks) (vs:Nat) (hG:ji ls vs) {K:Nat} (hK:qu ls K) (xI:K<137438953472) (gq:vs≤6) (w1:World) [dB Tryz.prog w1] (hI:Inv w [] w1) (k:Key) (r:SR) (hR:KZ ls w k r) (fC: ∀it∈r.kL,it.P w1) (x:Nat) (hx:x<2^vs):eK Tryz.prog w1 (.func (.func 77) #[(d_ (aD ob) 0)] #[]) [.agg #[r.a,r.b],.int .u8 (x:Int)] [] (fun v N=> ∃r',v=.agg #[r'.a,r'.b]∧N=r'.kL∧KZ ls w (Bi (kV ls) St.key (mZ ls) k x) r'):=by
 obtain⟨s,l,bb,cb,bc,cc,hs,rfl,IB,e1,e2,hm⟩:=hR
 obtain⟨hb,hl,CH⟩:=KZ.sl (ls:=ls) hI hm fC
 have hg: ∀y∈l,jv ls y.cf:=fun y hy=>hs.cf _ (by rw[IB];exact List.mem_map_of_mem hy)
 have HK:l.length≤K:=by
  have:=hK s.cf hs.nd hs.cf;rw[IB,ar]at this;exact this
 rw[e1,e2]
 refine(cQ (first:=[(d_ (aD ob) 0)]) (args:=[(.agg #[.slice bb s.bh.length bc,.slice cb l.length cc]),.int .u8 (x:Int)]) (gv:=[]) WV (SG w1 ob lb lc cv fv ls ks (hI.out ho) vs hG hK (by omega) x hx gq s.bh bb bc hb hs.bh l cb cc hl hg (by rw[←IB];exact hs.nd) CH)).mono ?_
 rintro v O' ⟨b1,b2,b3,c1,c2,l2,p,rfl,rfl,h1,h2⟩
 refine⟨⟨.slice b1 (mj ls s.bh x).length b2,.slice c1 l2.length c2,_⟩,F,F,mZ ls s x,l2,b1,c1,b2,c2,ri hG hs hx,uu (F1 hG) hs hx,?_,F,F,.inl ⟨_,_,p,F,h2.KK⟩⟩
 rw[h1,←IB];rfl
theorem HW (w:World) [dB Tryz.prog w] (cb:Nat) (eb:Option Addr) (en ec vs B:Nat) (eR:Sl w (aD cb) [.slice eb en ec,vI (vs:Int),vI (B:Int)]) (gq:vs≤6) (iN:1≤B) (hB:B≤4096) (e:List eE) (hE:Sl w eb (bX e)) (jU:en=e.length) (TQ:0<e.length) (DE:e.length≤64) (t:Rx) (EM:sJ e t (e.length-1)) (FV:Se cb eb en ec vs B e) (HC:e.any h_=false) (CH:t.plain=true):
  dA Tryz.prog w (.iface 163 (.agg #[])) 46 [(d_ (aD cb) 0)] [] (fun v N=> ∃M k',v=dV M k'∧N=[dI 56 4 3 M k']∧gf (vs:Int) B M (gj t)∧jY vs t B) (¬jY vs t B):=by
 refine dL func46 F ntmps46 F ?_
 subst jU
 refine ai (ao F (bu bK F (fun z1=>?_)))
 refine ae (ai (ah F (ad (bf F) (ad (ck k_ F g_ F F (aJ eR) (by first|omega|(simp;done)|(simp;omega)|(simp_all;done)|(simp_all;omega))) (ad (c_ dJ F F (aJ eR) F) (ad (cP dJ F) (ad (bT (fL F F (by omega)) (v':=vN (e.length-1)) (ax (Value.int .i64) (by omega))) (aj F (ae (aO (ai (ah F (ad (bf F) (ad (ck k_ F g_ F F (aJ eR) (by first|omega|(simp;done)|(simp;omega)|(simp_all;done)|(simp_all;omega))) (ad (c_ dJ F F (aJ eR) F) ?_)))))))))))))))
 have qp:=fun(w1:World) (hI:Inv w [oI z1 25 [(vI 0),(vI 0),nS,nS]] w1)=>(haveI:=ey hI;(show cA _ _ _ _ (fun v N=>v=Value.bool false∧N=[])from by
   have h9:=pH w1 eb ec e (hI.sl hE) (by omega) ((.func (.func 71) #[] #[])) h_ (fun y hy=>cQ (first:=[]) (args:=[y.ag]) (gv:=[]) Qj (KY w1 y))
   rw[HC]at h9
   exact h9))
 refine ao F (bm Qk (aX qp) F ?_)
 clear qp
 rintro vr O' ⟨N,rfl,rfl,rfl⟩
 refine ad (i_ F) (ae ?_)
 refine bW F ?_
 refine ai (ah F (ah F ?_))
 have Kt:=fun(w1:World) (hI:Inv w [oI z1 25 [(vI 0),(vI 0),nS,nS]] w1)=>(haveI:=ey hI;jF FV gq iN hB F t CH (e.length-1) EM w1 (hI.sl eR) (hI.sl hE))
 refine eC F (eV pG (dA.pure Kt) F (fun z _=>⟨F,z⟩) ?_)
 clear Kt
 rintro vr O' ⟨N,rfl,M,kr,rfl,rfl,hM,hO⟩
 refine ao F (bV (vs:=(dC M kr)) 1 bK F F F F ?_)
 refine ae (aN (az ?_))
 refine cL (i:=1) Tryz.results46 cS F bK F F F ?_
 exact⟨[dI 56 4 3 M kr],(by exact Sub.k .z),M,kr,F,F,hM,hO⟩
theorem K0 (w:World) [dB Tryz.prog w] (cb:Nat) (eb:Option Addr) (en ec vs B:Nat) (eR:Sl w (aD cb) [.slice eb en ec,vI (vs:Int),vI (B:Int)]) (gq:vs≤6) (iN:1≤B) (hB:B≤4096) (e:List eE) (hE:Sl w eb (bX e)) (jU:en=e.length) (TQ:0<e.length) (DE:e.length≤64) (t:Rx) (EM:sJ e t (e.length-1)) (AP:SP cb eb en ec vs B e) (HC:e.any h_=true) (hw:t.wf=true) (WW:t.lv≤12) {K:Nat} (WX:K<137438953472) (hG0:okB vs t B→ji (nw vs t) vs) (xI:okB vs t B→qu (nw vs t) K):
  dA Tryz.prog w (.iface 163 (.agg #[])) 46 [(d_ (aD cb) 0)] [] (fun v N=> ∃M k',v=dV M k'∧N=[dI 56 4 3 M k']∧gf (vs:Int) B M (Ya vs t)∧ZV vs t B) (¬ZV vs t B):=by
 refine dL func46 F ntmps46 F ?_
 subst jU
 have MG:t.lv≤12:=WW
 have DU:=gl vs t []
 have Pt:=e_ vs t []
 simp only[cN,Nat.zero_add]at DU Pt
 have WY:(2:Nat)^vs≤64:=bO (by decide) gq
 refine ai (ao F (bu bK F (fun z1=>?_)))
 refine ae (ai (ah F (ad (bf F) (ad (ck k_ F g_ F F (aJ eR) (by first|omega|(simp;done)|(simp;omega)|(simp_all;done)|(simp_all;omega))) (ad (c_ dJ F F (aJ eR) F) (ad (cP dJ F) (ad (bT (fL F F (by omega)) (v':=vN (e.length-1)) (ax (Value.int .i64) (by omega))) (aj F (ae (aO (ai (ah F (ad (bf F) (ad (ck k_ F g_ F F (aJ eR) (by first|omega|(simp;done)|(simp;omega)|(simp_all;done)|(simp_all;omega))) (ad (c_ dJ F F (aJ eR) F) ?_)))))))))))))))
 let eJ:Lx.Item:=oI z1 25 [(vI 0),(vI 0),nS,nS]
 have qp:=fun(w1:World) (hI:Inv w [eJ] w1)=>(haveI:=ey hI;(show cA _ _ _ _ (fun v N=>v=Value.bool true∧N=[])from by
   have h9:=pH w1 eb ec e (hI.sl hE) (by omega) ((.func (.func 71) #[] #[])) h_ (fun y hy=>cQ (first:=[]) (args:=[y.ag]) (gv:=[]) Qj (KY w1 y))
   rw[HC]at h9
   exact h9))
 refine ao F (bm Qk (aX qp) F ?_)
 clear qp
 rintro vr O' ⟨N,rfl,rfl,rfl⟩
 refine ad (i_ F) (ae (a_ F (aE (ai (ah F (ad (cF (cs:=[(d_ (aD cb) 0),nS,nS]) Oi SQ (by kernel_rfl)) (ao F (dE (cs:=[(d_ (aD cb) 0),nS,nS]) F F (fun z2=>?_)))))))))
 refine aj F (ae (aO (T.eY 118 7 ?_)))
 let gd:List Lx.Item:=[oI z2 114 [(d_ (aD cb) 0),nS,nS],aq none 0 118 7 (dj [] []),eJ]
 refine dv (O':=gd++(ce 3 (eU [] [])++gF 56 4 3 [] [])) (aC [1,0,0] F) ?_
 refine be (ah F (ah F ?_))
 have xz:=((xO AP gq iN hB F z2 nS t hw (e.length-1) EM w eR hE).frame [eJ] (O:=gd) none 0 [] [] F (by simp;omega) ⟨0,by simp,by have:=Nat.mul_le_mul MG MG;omega⟩ (by exact Sub.rf))
 refine eC F (eV CN xz F (fun z _=>⟨F,fun h9=>z h9.1⟩) ?_)
 clear xz
 rintro vr O' ⟨lb,lc,ks,fb,fc,xb,xc,rfl,rfl,n8,HP⟩
 let gr:Value:=(.slice fb ((aY vs t []).fi.length) fc)
 refine ah F (ad (bG (vs:=_) F F) (ad (bG (vs:=_) F F) (aj F (aj F (ae (ai (ah F (ah F (ad (bf F) (ad (bj gw F cU F F) (ao F (bV (vs:=[gr]) 0 cU F F F F ?_))))))))))))
 refine ae (aO (ai (ah F (ad (cP cI F) (ah F (ae (aU ?_)))))))
 let s9:Lx.Item:=aq fb fc 3 1 (bU ((aY vs t []).fi))
 let ul:Lx.Item:=aq xb xc 3 1 (bU ((aY vs t []).la))
 refine dv (O':=[oI z2 114 [(d_ (aD cb) 0),(.slice lb (((aY vs t []).ls).length) lc),gr],aq lb lc 118 7 (dj ((aY vs t []).ls) ks),s9,ul,eJ]++(ce 3 (eU ((aY vs t []).ls) ks)++gF 56 4 3 ((aY vs t []).ls) ks)) (by exact Sub.rf) ?_
 let gG:Value:=(.pointer (aD z2))
 refine dM (fun(i9:Nat) ρ O=> ∃(l3:List Lf),O=([oI z2 114 [(d_ (aD cb) 0),(.slice lb l3.length lc),gr],aq lb lc 118 7 (dj l3 ks),s9,ul,eJ]++(ce 3 (eU l3 ks)++gF 56 4 3 l3 ks))∧i9≤(aY vs t []).la.length∧l3=pK (aY vs t []).ls ((aY vs t []).la.take i9)∧ks.length=l3.length∧dt [(0,(d_ (aD cb) 0)),(2,(.pointer (aD z1))),(3,vN (e.length-1)),(4,gG),(5,gr),(6,(.slice xb ((aY vs t []).la.length) xc)),(26,gG),(37,(.slice xb ((aY vs t []).la.length) xc)),(38,vI ((aY vs t []).la.length:Int)),(39,vN i9)] ρ) (fun i9=>(aY vs t []).la.length-i9) 0 ?_ ?_
 ·exact⟨(aY vs t []).ls,F,bs _,F,n8,(.of F)⟩
 rintro i9 ρ O ⟨l3,rfl,MW,MF,tq,hH⟩
 obtain⟨gP,rfl⟩:=hH.elim
 clear hH
 refine ai (ad (cR F F) (ae (aO (aP F (fun hc=>?_) (fun hc=>?_)))))
 ·have xE:i9<(aY vs t []).la.length:=by omega
  obtain⟨kk,EI⟩: ∃k,k=(aY vs t []).la[i9]:=⟨_,F⟩
  have zJ:kk<l3.length:=by
   have:=(DU.2.1 _ (aL xE)).2
   rw[MF,uB,Pt,EI];exact this
  refine aE (aO (aU (ai (ad (dZ (i:=i9) cI bl F F (dX (mG 3 F)) xE (by rw[ar];exact xE)) (ad (c_ dS F F (dX (mG 3 F)) (show(bU (aY vs t []).la)[i9]? =some (vN kk) by rw[EI];exact ij xE)) (aj F (ae (be (ah F (ad (bf F) (ad (bj gw F gy F F) (ad (bn 0 fx F F F F) (ah F (ad (dU (i:=kk) fx eZ F F (dX (mG 1 F)) zJ (by rw[dY tq];omega)) (ad (ck iw F fw F F (dX (mG 1 F)) (by rw[dY tq];omega)) (ao F (n7 (j:=(kk*7+6)) (v:=.bool true) (vs:=[(.bool true)]) (cs:=dj l3 ks) 1 fw F F F F F (by simp) F (by rw[dY tq];simp;omega) ?_)))))))))))))))))
  let k8:Value:=(.slice fb ((aY vs t []).fi.length) fc)
  let oQ:Lx.Item:=aq fb fc 3 1 (bU ((aY vs t []).fi))
  let mg:Lx.Item:=aq xb xc 3 1 (bU ((aY vs t []).la))
  refine ef (O':=([oI z2 114 [(d_ (aD cb) 0),(.slice lb l3.length lc),k8],aq lb lc 118 7 (dj (l3.set kk {lf l3 kk with la:=true}) ks),oQ,mg,eJ]++(ce 3 (eU l3 ks)++gF 56 4 3 l3 ks))) (by rw[show fe (dj l3 ks) (kk*7+6) [(.bool true)]=dj (l3.set kk {lf l3 kk with la:=true}) ks from(by rw[CS tq zJ];simp[fe])];exact cj (aZ _)) ?_
  refine ae (be (ad (dx (a:=i9) (b:=1) F F (by omega)) (ah F (ae ?_))))
  exact⟨i9+1,by omega,[oI z2 114 [(d_ (aD cb) 0),(.slice lb ((l3.set kk {lf l3 kk with la:=true}).length) lc),k8],aq lb lc 118 7 (dj (l3.set kk {lf l3 kk with la:=true}) ks),oQ,mg,eJ]++(ce 3 (eU (l3.set kk {lf l3 kk with la:=true}) ks)++gF 56 4 3 (l3.set kk {lf l3 kk with la:=true}) ks),by
   rw[EN tq zJ,HX tq zJ,eX]
   exact Sub.rf,(l3.set kk {lf l3 kk with la:=true}),F,by omega,by rw[EO xE,←EI,←MF],by rw[eX];exact tq,(.of F)⟩
 have P0: ¬i9<(aY vs t []).la.length:=by omega
 refine cG ?_
 refine aO ?_
 have e3:l3=nw vs t:=by rw[MF,bt (by omega)];rfl
 have hG:=hG0 HP
 have hK:=xI HP
 rw[←e3]at hG hK
 have qY:(aY vs t []).fi.length≤1000000:=by have:=DU.2.2.1;omega
 have WZ: ∀k∈(aY vs t []).fi,k<l3.length:=fun k hk=>by rw[e3];exact F2 k hk
 refine be (ah F (ah F ?_))
 let iB:Value:=(.slice fb ((aY vs t []).fi.length) fc)
 let jw:Lx.Item:=oI z2 114 [(d_ (aD cb) 0),(.slice lb l3.length lc),iB]
 let k7:Lx.Item:=aq fb fc 3 1 (bU ((aY vs t []).fi))
 let mv:Lx.Item:=aq xb xc 3 1 (bU ((aY vs t []).la))
 have W0:=fun(w1:World) (hI:Inv w ([jw,aq lb lc 118 7 (dj l3 ks),k7,mv,eJ]++(ce 3 (eU l3 ks)++gF 56 4 3 l3 ks)) w1)=>(haveI:=ey hI;Oc w1 z2 lb lc (d_ (aD cb) 0) (.slice fb ((aY vs t []).fi.length) fc) l3 ks (kU.of (II:=56) (Bo:=4) (I:=3) hI tq (mG 0 F) (mG 1 F) (fun it h=>am _ (aQ _ h)) (fun it h=>am _ (am _ h))) vs hG hK (by omega) (aY vs t []).fi fb fc F (hI.gW (mG 2 F)) WZ qY)
 refine ao F (bm W1 (aX W0) F ?_)
 clear W0
 rintro vr O' ⟨N,rfl,bb,bc,l_,gb,gc,l,p,rfl,rfl,W2,hS⟩
 refine ef (O':=([aq bb l_ 3 1 (bU (l3.map fun l=>l.d.start.toNat)),aq gb gc 169 3 (du l),jw,aq lb lc 118 7 (dj l3 ks),k7,mv,eJ]++((fZ 173 p)++(ce 3 (eU l3 ks)++gF 56 4 3 l3 ks)))) (by exact fE [aq bb l_ 3 1 (bU (l3.map fun l=>l.d.start.toNat)),aq gb gc 169 3 (du l)] _ (fZ 173 p) (ce 3 (eU l3 ks)++gF 56 4 3 l3 ks)) ?_
 refine ah F (ad (e8) (ah F (ad (e8) (ah F (ad (e8) ?_)))))
 have JH:=fun(w1:World) (hI:Inv w ([aq bb l_ 3 1 (bU (l3.map fun l=>l.d.start.toNat)),aq gb gc 169 3 (du l),oI z2 114 [(d_ (aD cb) 0),(.slice lb l3.length lc),iB],aq lb lc 118 7 (dj l3 ks),aq fb fc 3 1 (bU ((aY vs t []).fi)),aq xb xc 3 1 (bU ((aY vs t []).la)),eJ]++((fZ 173 p)++(ce 3 (eU l3 ks)++gF 56 4 3 l3 ks))) w1)=>(haveI:=ey hI;El w1 cb eb _ ec vs B (2^vs) (hI.sl eR) gq F iN hB (Bi (kV l3) St.key (mZ l3)) (HL (kV l3) St.key sf) (lF l3 (aY vs t []).fi).key (KZ l3 w1) ⟨.slice bb (l3.map fun l=>l.d.start.toNat).length bc,.slice gb l.length gc,[]⟩ (.func (.func 76) #[gG] #[]) (.func (.func 77) #[gG] #[]) (.func (.func 78) #[gG] #[]) ⟨(lF l3 (aY vs t []).fi),l,bb,gb,bc,gc,xP hG WZ,F,(by rw[W2];rfl),F,F,.inr ⟨F,hI.gW (mG 0 F),hI.gW (mG 1 F),fun y hy=>lZ.sl (T:=173) hI (fun it h=>am _ (aQ _ h)) (hS.KK y hy)⟩⟩ F (fun k r h=>h.one) (fun w2 k r pC hR fC=>haveI:=ey pC;WQ w1 z2 lb lc (d_ (aD cb) 0) iB l3 ks (kU.of (II:=56) (Bo:=4) (I:=3) hI tq (mG 2 F) (mG 3 F) (fun it h=>am _ (am _ (aQ _ h))) (fun it h=>am _ (am _ (am _ h)))) vs hG hK WX gq w2 pC k r hR fC) (fun w2 k r x pC hR fC hx=>haveI:=ey pC;WU w1 z2 lb lc (d_ (aD cb) 0) iB l3 ks (kU.of (II:=56) (Bo:=4) (I:=3) hI tq (mG 2 F) (mG 3 F) (fun it h=>am _ (am _ (aQ _ h))) (fun it h=>am _ (am _ (am _ h)))) vs hG hK WX gq w2 pC k r hR fC x hx) (fun w2 k r pC hR fC=>haveI:=ey pC;WS w1 z2 lb lc (d_ (aD cb) 0) iB l3 ks (kU.of (II:=56) (Bo:=4) (I:=3) hI tq (mG 2 F) (mG 3 F) (fun it h=>am _ (am _ (aQ _ h))) (fun it h=>am _ (am _ (am _ h)))) vs hG hK WX gq w2 pC k r hR fC))
 refine eC F (eV W3 (dA.pure JH) F (fun z _=>⟨F,fun h9=>z (by have:=h9.2;unfold Ry at this;rw[←e3]at this;exact this)⟩) ?_)
 clear JH
 rintro vr O' ⟨N,rfl,M,k9,rfl,rfl,hM,Ke⟩
 refine ao F (bV (vs:=(dC M k9)) 7 bK F F F F ?_)
 refine ae (aN (az ?_))
 refine cL (i:=7) Tryz.results46 cS F bK F F F ?_
 subst e3
 exact⟨[dI 56 4 3 M k9],(by exact Sub.k .z),M,k9,F,F,hM.to fun u hu=>K1 hG (fun x hx=>by simpa using hu x hx),HP,Ke⟩
end Go.Proofs.YtgdbfideeeegmaaGreatDoor

namespace Go.Proofs.YtgdbfideeeegmaaGreatDoor
open Go.Lx Go.RowKit _root_.Go.Proofs.Tryz
theorem Om (w:World) [dB Tryz.prog w] (eb:Option Addr) (ec:Nat) (e:List eE) (hE:Sl w eb (bX e)) (DE:e.length≤64) (oz: ∀x∈e,x.p<256∧x.n<256) (v:Nat) (hv:v≤6):
  cA Tryz.prog 89 [.slice eb e.length ec,vN v] w fun r N=> ∃(b:Option Addr) (c er:Nat) (fs:List Nat),r=.tuple #[.slice b fs.length c,vI (er:Int)]∧N=[aq b c 3 1 (bU fs)]∧((jP v e=.error er∧er≠0)∨(jP v e=.ok fs∧er=0∧fs.length=e.length)):=by
 refine(gg 3 1 (Oj w eb ec e hE DE oz v hv)).post ?_
 rintro r O' ⟨O2,rfl,⟨n,h1,rfl,rfl⟩|⟨fs,b,c,h1,rfl,rfl⟩⟩
 ·exact⟨_,Sub.rf,none,0,n,[],F,F,.inl ⟨h1,AQ h1⟩⟩
 ·obtain⟨gs,h2,h3,_,_⟩:=pg h1 e.length (a8 _)
  rw[List.take_length]at h2
  rw[h2]at h1
  injection h1 with h1
  subst h1
  exact⟨_,aC [1] F,b,c,0,gs,by rw[h3];rfl,F,.inr ⟨h2,F,h3⟩⟩
theorem K5 (w:World) [dB Tryz.prog w] (eb:Option Addr) (ec:Nat) (e:List eE) (hE:Sl w eb (bX e)) (DE:e.length<4611686018427387904) (oz: ∀x∈e,x.p<256∧x.n<256) (vars:Int):
  cA Tryz.prog 54 [.slice eb e.length ec,vI vars] w fun r N=> ∃b n c,r=.tuple #[.slice b n c,vI (im vars e:Int)]∧N=[]:=by
 refine aG func54 F ntmps54 F ?_
 let gr:Value:=(.slice eb e.length ec)
 refine ai (ao F (dE (cs:=[gr]) F F (fun z1=>?_)))
 refine aj F (aj F (ae (aO (aU (ai (ah F (ad (cR F F) ?_)))))))
 by_cases MV:vars<0
 ·refine ad (aA (aK F) (av MV)) ?_
  refine aS F F (aS F F (ad (cg F F) (aj F (ae ?_))))
  refine bW F ?_
  refine ai (aj F (aj F (ae (aN (az ?_)))))
  refine dc nS (vI 7) Tryz.results54 F F ?_
  have e9:im vars e=7:=by unfold im;rw[aR (by omega)]
  exact⟨[],Sub.z,none,0,0,(by first|(rw[e9];done)|(rw[e9];rfl)),F⟩
 refine ad (aA (aK F) (ak MV)) (aB F F (aK F) (aB F F (gH F F) (ad (b_ F F) (aj F (ae (aP F (fun hc=>?_) (fun hc=>?_)))))))
 ·have SW:vars<0∨6<vars:=by omega
  refine ai (aj F (aj F (ae (aN (az ?_)))))
  refine dc nS (vI 7) Tryz.results54 F F ?_
  have e9:im vars e=7:=by unfold im;rw[aR (by omega)]
  exact⟨[],Sub.z,none,0,0,(by first|(rw[e9];done)|(rw[e9];rfl)),F⟩
 have SW: ¬(vars<0∨6<vars):=by omega
 obtain⟨v,hvv⟩: ∃v:Nat,vars=(v:Int):=⟨vars.toNat,by omega⟩
 have QH:v≤6:=by omega
 have Yp:vars.toNat=v:=by omega
 refine ai (ad (bn 0 dJ F F F F) (ad (cP dJ F) (ad (bM F F) (aj F (ae (aP F (fun hc=>?_) (fun hc=>?_)))))))
 ·have CD:e.length=0:=by omega
  have Hj:e.length=0:=by omega
  refine ai (aj F (aj F (ae (aN (az ?_)))))
  refine dc nS (vI 3) Tryz.results54 F F ?_
  have e9:im vars e=3:=by unfold im;rw[ay SW,aR Hj]
  exact⟨[],Sub.z,none,0,0,(by first|(rw[e9];done)|(rw[e9];rfl)),F⟩
 have Wl: ¬e.length=0:=by omega
 have Hj: ¬e.length=0:=by omega
 refine ai (ad (bn 0 dJ F F F F) (ad (cP dJ F) (ad (gH F F) (aj F (ae (aP F (fun hc=>?_) (fun hc=>?_)))))))
 ·have zG:e.length>64:=by omega
  have Eb:64<e.length:=by omega
  refine ai (aj F (aj F (ae (aN (az ?_)))))
  refine dc nS (vI 4) Tryz.results54 F F ?_
  have e9:im vars e=4:=by unfold im;rw[ay SW,ay Hj,aR Eb]
  exact⟨[],Sub.z,none,0,0,(by first|(rw[e9];done)|(rw[e9];rfl)),F⟩
 have Wv: ¬e.length>64:=by omega
 have Eb: ¬64<e.length:=by omega
 refine aE (ai (ad (bn 0 dJ F F F F) (ad (bT (aK F) (v':=vN v) (by show Value.int .i64 vars=_;rw[hvv])) ?_)))
 have ta:=fun(w1:World) (hI:Inv w [oI z1 32 [gr]] w1)=>(haveI:=ey hI;Om w1 eb ec e (hI.sl hE) (by omega) oz v QH)
 refine ao F (bm W8 (aX ta) F ?_)
 clear ta
 rintro vr O' ⟨N,rfl,b,c,er,fs,rfl,rfl,P6⟩
 refine ah F (ad (bG (vs:=_) F F) (ad (bG (vs:=_) F F) (aj F (aj F (ae (aO (ai (ah F (ad (dP F F) (ae (aP F (fun hc=>?_) (fun hc=>?_))))))))))))
 ·have ab0:er≠0:=by omega
  have ZX:er≠0:=by omega
  have hbe:jP v e=.error er:=P6.elim (fun h=>h.1) (fun h=>absurd h.2.1 ZX)
  refine ai (ah F (aj F (aj F (ae (aN (az ?_))))))
  refine dc nS (vN er) Tryz.results54 F F ?_
  have e9:im vars e=er:=by unfold im;rw[ay SW,ay Hj,ay Eb,Yp,hbe]
  exact⟨[],Sub.z,none,0,0,(by first|(rw[e9];done)|(rw[e9];rfl)),F⟩
 have ab1: ¬er≠0:=by omega
 have ZX:er=0:=by omega
 obtain⟨Yq,_,qY⟩:=P6.resolve_left (fun h=>h.2 ZX)
 refine aE (aO (ai (ah F (ad (bn 1 dJ F F F F) (ad (cP dJ F) (ad (bT (fL F F (by omega)) (v':=vN (e.length-1)) (ax (Value.int .i64) (by omega))) (ad (dZ (i:=(e.length-1)) cI bl F F (dX (mG 0 F)) (by omega) (by rw[ar];omega)) (ad (c_ dS F F (dX (mG 0 F)) (lH (show e.length-1<fs.length by omega))) (ad (dP F F) (ae (aP F (fun hc=>?_) (fun hc=>?_))))))))))))
 ·have zH:(fs.getD (e.length-1) 0)≠0:=by omega
  have Rs:fs.getD (e.length-1) 0≠0:=by omega
  refine ai (aj F (aj F (ae (aN (az ?_)))))
  refine dc nS (vI 2) Tryz.results54 F F ?_
  have e9:im vars e=2:=by unfold im;rw[ay SW,ay Hj,ay Eb,Yp,Yq];show(if _ then _ else _)=_;first|(rw[aR Rs];done)|(rw[ay Rs,ay WY];done)
  exact⟨[],Sub.z,none,0,0,(by first|(rw[e9];done)|(rw[e9];rfl)),F⟩
 have Wz: ¬(fs.getD (e.length-1) 0)≠0:=by omega
 have Rs: ¬fs.getD (e.length-1) 0≠0:=by omega
 refine aE (ai (ao F (bu K6 F (fun z2=>?_))))
 let eJ:Value:=(.func (.func 90) #[] #[(.pointer (aD z1)),(.pointer (aD z2))])
 refine ae (ai (ad (e8) (ao F (bV (vs:=[eJ]) 0 K6 F F F F ?_))))
 refine ae (aO (ai (ad (bn 0 K2 F F F F) (ad (bn 2 dJ F F F F) (ad (cP dJ F) (ad (bT (fL F F (by omega)) (v':=vN (e.length-1)) (ax (Value.int .i64) (by omega))) ?_))))))
 have W9:=(eo (base:=w) (O:=[oI z2 140 [eJ],aq b c 3 1 (bU fs),oI z1 32 [gr]]) fun w1 hI=>haveI:=ey hI;haveI:=ey hI;cQ (first:=[]) (args:=[vN (e.length-1),.bool true]) (gv:=[(d_ (aD z1) 0),(d_ (aD z2) 0)]) K4 (SV w1 eb ec e (hI.sl hE) z1 z2 (hI.jZ (mG 2 F)) (hI.jZ (mG 0 F)) (qq Yq) e.length (e.length-1) (by omega) (by omega) true))
 refine ao F (fh W9 F F ?_)
 clear W9
 rintro vr O' ⟨N,rfl,rfl,rfl⟩
 refine ad (i_ F) (ae (T.cond F (fun hc=>?_) (fun hc=>?_)))
 ·have WY: ¬mh e e.length (e.length-1) true=true:=by simpa using hc
  refine ai (aj F (aj F (ae (aN (az ?_)))))
  refine dc nS (vI 2) Tryz.results54 F F ?_
  have e9:im vars e=2:=by unfold im;rw[ay SW,ay Hj,ay Eb,Yp,Yq];show(if _ then _ else _)=_;first|(rw[aR Rs];done)|(rw[ay Rs,ay WY];done)
  exact⟨[],Sub.z,none,0,0,(by first|(rw[e9];done)|(rw[e9];rfl)),F⟩
 have WY:mh e e.length (e.length-1) true=true:=by simpa using hc
 refine aE (ai (ah F (aj F (aj F (ae (aN (az ?_)))))))
 refine dc (.slice b fs.length c) (vI 0) Tryz.results54 F F ?_
 have e9:im vars e=0:=by unfold im;rw[ay SW,ay Hj,ay Eb,Yp,Yq];show(if _ then _ else _)=_;rw[ay Rs,aR WY]
 exact⟨[],Sub.z,b,fs.length,c,(by first|(rw[e9];done)|(rw[e9];rfl)),F⟩
theorem F4 (w:World) [dB Tryz.prog w] (eb:Option Addr) (ec:Nat) (e:List eE) (hE:Sl w eb (bX e)) (DE:e.length<4611686018427387904) (oz: ∀x∈e,x.p<256∧x.n<256) (vars:Int):
  cA Tryz.prog 28 [.slice eb e.length ec,vI vars] w fun r N=>r=vI (im vars e:Int)∧N=[]:=by
 refine aG func28 F ntmps28 F ?_
 refine ai (aj F (ae (ai (ah F (ah F ?_)))))
 have qt:=fun(w1:World) (hI:Inv w [] w1)=>(haveI:=ey hI;K5 w1 eb ec e (hI.sl hE) DE oz vars)
 refine ao F (bm Ql (aX qt) F ?_)
 clear qt
 rintro vr O' ⟨N,rfl,b,n,c,rfl,rfl⟩
 refine ah F (ad (bG (vs:=_) F F) (ad (bG (vs:=_) F F) (aj F (aj F (ae (ai (ah F (aj F (ae (aN (az ?_)))))))))))
 refine aT (vI (im vars e:Int)) Tryz.results28 F ?_
 exact⟨[],Sub.z,F,F⟩
theorem On (w:World) [dB Tryz.prog w] (eb:Option Addr) (ec:Nat) (e:List eE) (hE:Sl w eb (bX e)) (DE:e.length<4611686018427387904) (oz: ∀x∈e,x.p<256∧x.n<256) (vars:Int):
  cA Tryz.prog 25 [.slice eb e.length ec,vI vars] w fun r N=>r=.tuple #[.bool (decide (im vars e=0)&&!e.any h_),vI (im vars e:Int)]∧N=[]:=by
 refine aG func25 F ntmps25 F ?_
 refine ai (aj F (aj F (ae (aO (ai (ah F (ah F ?_)))))))
 have xu:=fun(w1:World) (hI:Inv w [] w1)=>(haveI:=ey hI;K5 w1 eb ec e (hI.sl hE) DE oz vars)
 refine ao F (bm Ql (aX xu) F ?_)
 clear xu
 rintro vr O' ⟨N,rfl,b,n,c,rfl,rfl⟩
 refine ah F (ad (bG (vs:=_) F F) (ad (bG (vs:=_) F F) (aj F (aj F (ae (ai (ah F (ad (dP F F) (ae (aP F (fun hc=>?_) (fun hc=>?_)))))))))))
 ·have W_:im vars e≠0:=by omega
  have Hn:im vars e≠0:=by omega
  refine ai (ah F (aj F (aj F (ae (aN (az ?_))))))
  refine dc (.bool false) (vI (im vars e:Int)) Tryz.results25 F F ?_
  exact⟨[],Sub.z,by rw[ak Hn];rfl,F⟩
 have Xa: ¬im vars e≠0:=by omega
 have Hn:im vars e=0:=by omega
 refine aE (aO (ai (ah F (ad (cP dJ F) (ah F (ae (aU ?_)))))))
 refine dM (fun(i:Nat) ρ O=>O=[]∧i≤e.length∧(e.take i).any h_=false∧dt [(0,(.slice eb e.length ec)),(1,vI vars),(7,vI (im vars e:Int)),(19,(.slice eb e.length ec)),(20,vI (e.length:Int)),(21,vN i)] ρ) (fun i=>e.length-i) 0 ?_ ?_
 ·exact⟨F,bs _,F,(.of F)⟩
 rintro i ρ O ⟨rfl,hi,ZY,hH⟩
 obtain⟨gP,rfl⟩:=hH.elim
 clear hH
 refine ai (ad (cR F F) (ae (aO (aP F (fun hc=>?_) (fun hc=>?_)))))
 ·have mU:i<e.length:=by omega
  refine aE (aO (aU (ai (ad (dU (i:=i) dJ cK F F (aJ hE) mU (by rw[cz];omega)) (ad (eP (vs:=e[i].cl) cp F cK F F (bw _) (aJ hE) (lE mU)) (ao F (bu cK F (fun z1=>?_))))))))
  refine ao F (bV (vs:=e[i].cl) 0 cK F F F F ?_)
  refine ae (ai (ad (bj cp F dF F F) (ad (bn 0 fF F F F F) (ad (bM F F) ?_))))
  by_cases h9:((e[i].op:Nat):Int)=9
  ·refine ad (aA (aK F) (av h9)) ?_
   refine aS F F (aS F F (aS F F (ad (cg F F) (ae ?_))))
   refine bW F ?_
   refine ai (aj F (aj F (ae (aN (az ?_)))))
   refine dc (.bool false) (vI 0) Tryz.results25 F F ?_
   have HC:e.any h_=true:=wm mU (by unfold h_;simp;omega)
   exact⟨[],Sub.z,by rw[av Hn,HC,Hn];rfl,F⟩
  refine ad (aA (aK F) (ak h9)) (aB F F (bj cp F dF F F) (aB F F (bn 0 fF F F F F) (aB F F (bM F F) (ad (b_ F F) (ae (aP F (fun hc=>?_) (fun hc=>?_)))))))
  ·have P8:e[i].op=10:=by omega
   refine ai (aj F (aj F (ae (aN (az ?_)))))
   refine dc (.bool false) (vI 0) Tryz.results25 F F ?_
   have HC:e.any h_=true:=wm mU (by unfold h_;simp;omega)
   exact⟨[],Sub.z,by rw[av Hn,HC,Hn];rfl,F⟩
  have WG: ¬e[i].op=10:=by omega
  refine aE (be (ad (dx (a:=i) (b:=1) F F (by omega)) (ah F (ae ?_))))
  have HC:h_ e[i]=false:=by unfold h_;rw[ak (show¬e[i].op=9 by omega),ak (show¬e[i].op=10 by omega)];rfl
  exact⟨i+1,by omega,[],(by exact Sub.z),F,by omega,re mU ZY HC,(.of F)⟩
 have xk: ¬i<e.length:=by omega
 refine cG ?_
 refine ai (aj F (aj F (ae (aN (az ?_)))))
 refine dc (.bool true) (vI 0) Tryz.results25 F F ?_
 have ZZ:e.any h_=false:=by rw[bt (by omega)]at ZY;exact ZY
 exact⟨[],Sub.z,by rw[av Hn,ZZ,Hn];rfl,F⟩
end Go.Proofs.YtgdbfideeeegmaaGreatDoor

namespace Go.Proofs.YtgdbfideeeegmaaGreatDoor
open Go.Lx Go.RowKit _root_.Go.Proofs.Tryz
end Go.Proofs.YtgdbfideeeegmaaGreatDoor

namespace Go.Proofs.YtgdbfideeeegmaaGreatDoor
open Go.Lx Go.RowKit _root_.Go.Proofs.Tryz
deriving instance DecidableEq for eE
theorem qT {P:Program} {d:Nat} {xs ys:Array Value} {f:Field} {fs:List Field} {a b:Value} {r r2:Bool} {w:World} (hn:f.name≠ "_") (he:P.plainKey f.type=true) (ha:xs[f.offset]? =some a) (hb:ys[f.offset]? =some b)
  (hr:(Op.equalIn d f.type a b).run P w=.ok r w) (h2:(Op.eqFields d xs ys fs).run P w=.ok r2 w):(Op.eqFields d xs ys (f::fs)).run P w=.ok (r&&r2) w:=by
 simp only[Op.eqFields,aR hn,Sem.run_bind,run_part_plain w he ha,run_part_plain w he hb,hr,Result.andThen_ok,Sem.run_ite]
 cases r<;>simp[h2]
theorem XA (x y:eE) (w:World):(Op.equalIn 10000 72 (.agg x.cells.toArray) (.agg y.cells.toArray)).run Tryz.prog w=.ok (decide (x=y)) w:=by
 have hf:Tryz.prog.fieldsOf 72= #[⟨"Op",5,0,false, "", "",0⟩,⟨"Pos",5,1,false, "", "",1⟩,⟨"Neg",5,2,false, "", "",2⟩,⟨"A",3,3,false, "", "",8⟩,⟨"B",3,4,false, "", "",16⟩]:=by
  unfold Program.fieldsOf;rw[cp]
 rw[run_equalIn_agg w 9999 72 _ _ (by rw[hf];exact cp) (by kernel_rfl),hf]
 have hu8:Tryz.prog.underlying 5=some (.int .u8):=fF
 have hi:Tryz.prog.underlying 3=some (.int .i64):=dS
 have p5:Tryz.prog.plainKey 5=true:=by unfold Program.plainKey;rw[hu8]
 have p3:Tryz.prog.plainKey 3=true:=by unfold Program.plainKey;rw[hi]
 have e5: ∀(u v:Int) w,(Op.equalIn 9999 5 (.int .u8 u) (.int .u8 v)).run Tryz.prog w=.ok (u==v) w:=fun u v w=>run_equalIn_int w 9998 5 .u8 .u8 u v hu8
 have e3: ∀(u v:Int) w,(Op.equalIn 9999 3 (.int .i64 u) (.int .i64 v)).run Tryz.prog w=.ok (u==v) w:=fun u v w=>run_equalIn_int w 9998 3 .i64 .i64 u v hi
 clear hf
 generalize 9999=q at e5 e3⊢
 obtain⟨o,p,n,a,b⟩:=x
 obtain⟨o2,p2,n2,a2,b2⟩:=y
 refine Eq.trans (qT (by simp) p5 F F (e5 _ _ w) (qT (by simp) p5 F F (e5 _ _ w) (qT (by simp) p5 F F (e5 _ _ w) (qT (by simp) p3 F F (e3 _ _ w) (qT (by simp) p3 F F (e3 _ _ w) F))))) ?_
 refine ax (fun r=>Result.ok r w) ?_
 rw[eB];simp;omega
section
variable {base:World} {ρ:Env} {O:List Lx.Item} {dst:Option Nat} {t:TypeId} {p:String} {af:Array Edge} {g:Option (Nat×Bool)}
theorem CW {x y:Operand} {u v:eE} {U:TypeId} (hx:ev ρ x=.agg u.cells.toArray) (hy:ev ρ y=.agg v.cells.toArray):
  QT Tryz.prog base ⟨dst,.binOp .neq 72 x y U,t,p,af,g⟩ ρ O (.bool (!decide (u=v))):=fun w _=>by
 have h:=XA u v w
 have hm:Tryz.prog.eqGuardType Tryz.prog.depth 72=false:=by kernel_rfl
 simp[execOp,hx,hy,run_eqGuard_agg w .neq 72 x y _ _ hm,run_neq_struct,h]
end
end Go.Proofs.YtgdbfideeeegmaaGreatDoor

namespace Go.Proofs.YtgdbfideeeegmaaGreatDoor
open Go.Lx Go.RowKit _root_.Go.Proofs.Tryz
theorem NE (w:World) [dB Tryz.prog w] (xb yb:Option Addr) (xc yc:Nat) (xs ys:List eE) (hX:Sl w xb (bX xs)) (hY:Sl w yb (bX ys)) (hb:xs.length<4611686018427387904):
  cA Tryz.prog 15 [.slice xb xs.length xc,.slice yb ys.length yc] w fun v N=>v=.bool (decide (xs=ys))∧N=[]:=by
 refine aG func15 F ntmps15 F ?_
 refine ai (aj F (ae (aO (ai (ah F (ad (cP dJ F) (ah F (ad (cP dJ F) (ad (dP F F) (ae (aP F (fun hc=>?_) (fun hc=>?_))))))))))))
 ·have ln:xs.length≠ys.length:=by omega
  have iM:xs.length≠ys.length:=by omega
  refine ai (aj F (ae (aN ?_)))
  refine aT (.bool false) Tryz.results15 F ?_
  exact⟨ax Value.bool (ak (fun e=>iM (by rw[e]))).symm,F⟩
 have vh: ¬xs.length≠ys.length:=by omega
 have iM:xs.length=ys.length:=by omega
 refine aE (aO (ai (aj F (ae (aU ?_)))))
 refine et (fun(k:Nat) ρ O=>O=[]∧k≤xs.length∧xs.take k=ys.take k∧dt [(0,(.slice xb xs.length xc)),(1,(.slice yb ys.length yc)),(5,vN k)] ρ) (fun k=>xs.length-k) 0 ?_ ?_
 ·exact⟨F,bs _,F,⟨F,F,F,trivial⟩⟩
 rintro k ρ O ⟨rfl,hk,he,hH⟩
 obtain⟨gP,rfl⟩:=hH.elim
 clear hH
 refine aO (ai (ah F (ah F (ad (cP dJ F) (ad (cR F F) (ae (aP F (fun hc=>?_) (fun hc=>?_))))))))
 ·have pI:k<xs.length:=by omega
  have gn:k<xs.length:=by omega
  have lC:k<ys.length:=by omega
  refine aE (aO (aU (aO ?_)))
  refine fQ [(0,0),(1,0),(2,0),(3,0),(4,0),(5,0),(6,0),(7,0),(8,0)] ?_
  refine au F (aK F) (au F (aK F) (au F (dU (i:=k) dJ cK F F (aJ hX) gn (by rw[cz];omega)) (au F (eP (vs:=xs[k].cl) cp F cK F F (bw _) (aJ hX) (fH (ap gn))) ?_)))
  refine au F (aK F) (au F (aK F) (au F (dU (i:=k) dJ cK F F (aJ hY) lC (by rw[cz];omega)) (au F (eP (vs:=ys[k].cl) cp F cK F F (bw _) (aJ hY) (fH (ap lC))) ?_)))
  refine au F (CW (u:=xs[k]) (v:=ys[k]) F F) ?_
  refine cy ?_
  refine T.cond F (fun hc=>?_) (fun hc=>?_)
  ·refine aO ?_
   refine be (aj F (ae (aN ?_)))
   refine aT (.bool false) Tryz.results15 F ?_
   exact⟨ax Value.bool (ak (fun e=>(by simp at hc;exact hc:xs[k]≠ys[k]) (by subst e;rfl))).symm,F⟩
  refine aE (be (ah F (ad (dx (a:=k) (b:=1) F F (by omega)) (aj F (ae ?_)))))
  refine⟨k+1,by omega,F,by omega,?_,⟨F,F,F,trivial⟩⟩
  rw[aH gn,aH lC,he]
  exact ax _ (ax (fun z=>[z]) (by simpa using hc))
 have xG: ¬k<xs.length:=by omega
 refine cG ?_
 refine ai (aj F (ae (aN ?_)))
 refine aT (.bool true) Tryz.results15 F ?_
 exact⟨ax Value.bool (av (show xs=ys by rw[bt (by omega),bt (by omega)]at he;exact he)).symm,F⟩
theorem M_ (w:World) [dB Tryz.prog w] (xb yb:Option Addr) (xc yc:Nat) (xs ys:List eE) (hX:Sl w xb (bX xs)) (hY:Sl w yb (bX ys)) (hb:xs.length<4611686018427387904):
  cA Tryz.prog 67 [.slice xb xs.length xc,.slice yb ys.length yc] w fun v N=>v=.bool (decide (xs=ys))∧N=[]:=by
 refine aG func67 F ntmps67 F ?_
 refine ai (aj F (ae (aO (ai (ah F (ad (cP dJ F) (ah F (ad (cP dJ F) (ad (dP F F) (ae (aP F (fun hc=>?_) (fun hc=>?_))))))))))))
 ·have ln:xs.length≠ys.length:=by omega
  have iM:xs.length≠ys.length:=by omega
  refine ai (aj F (ae (aN ?_)))
  refine aT (.bool false) Tryz.results67 F ?_
  exact⟨ax Value.bool (ak (fun e=>iM (by rw[e]))).symm,F⟩
 have vh: ¬xs.length≠ys.length:=by omega
 have iM:xs.length=ys.length:=by omega
 refine aE (aO (ai (ah F (ad (cP dJ F) (ah F (ae (aU ?_)))))))
 refine et (fun(k:Nat) ρ O=>O=[]∧k≤xs.length∧xs.take k=ys.take k∧dt [(0,(.slice xb xs.length xc)),(1,(.slice yb ys.length yc)),(12,vI (xs.length:Int)),(13,vN k)] ρ) (fun k=>xs.length-k) 0 ?_ ?_
 ·exact⟨F,bs _,F,⟨F,F,F,F,trivial⟩⟩
 rintro k ρ O ⟨rfl,hk,he,hH⟩
 obtain⟨gP,rfl⟩:=hH.elim
 clear hH
 refine ai (ad (cR F F) (ae (aO (aP F (fun hc=>?_) (fun hc=>?_)))))
 ·have pI:k<xs.length:=by omega
  have gn:k<xs.length:=by omega
  have lC:k<ys.length:=by omega
  refine aE (aO (aU (ai (ah F (aj F (ae (aO ?_)))))))
  refine fQ [(0,0),(1,0),(2,0),(3,0),(4,0),(5,0),(6,0),(7,0),(8,0)] ?_
  refine au F (aK F) (au F (aK F) (au F (dU (i:=k) dJ cK F F (aJ hX) gn (by rw[cz];omega)) (au F (eP (vs:=xs[k].cl) cp F cK F F (bw _) (aJ hX) (fH (ap gn))) ?_)))
  refine au F (aK F) (au F (aK F) (au F (dU (i:=k) dJ cK F F (aJ hY) lC (by rw[cz];omega)) (au F (eP (vs:=ys[k].cl) cp F cK F F (bw _) (aJ hY) (fH (ap lC))) ?_)))
  refine au F (CW (u:=xs[k]) (v:=ys[k]) F F) ?_
  refine cy ?_
  refine T.cond F (fun hc=>?_) (fun hc=>?_)
  ·refine aO ?_
   refine be (aj F (ae (aN ?_)))
   refine aT (.bool false) Tryz.results67 F ?_
   exact⟨ax Value.bool (ak (fun e=>(by simp at hc;exact hc:xs[k]≠ys[k]) (by subst e;rfl))).symm,F⟩
  refine aE (be (ad (dx (a:=k) (b:=1) F F (by omega)) (ah F (ae ?_))))
  refine⟨k+1,by omega,F,by omega,?_,⟨F,F,F,F,trivial⟩⟩
  rw[aH gn,aH lC,he]
  exact ax _ (ax (fun z=>[z]) (by simpa using hc))
 have xG: ¬k<xs.length:=by omega
 refine cG ?_
 refine ai (aj F (ae (aN ?_)))
 refine aT (.bool true) Tryz.results67 F ?_
 exact⟨ax Value.bool (av (show xs=ys by rw[bt (by omega),bt (by omega)]at he;exact he)).symm,F⟩
end Go.Proofs.YtgdbfideeeegmaaGreatDoor

namespace Go.Lx
open Go.RowKit Go.Proofs.YtgdbfideeeegmaaGreatDoor
abbrev PP:=Nat×List eE
def ep (s:Nat) (x:eE):eE:=if x.op=7∨x.op=8 then {x with a:=x.a+s}else if x.op=4∨x.op=5∨x.op=6 then {x with a:=x.a+s,b:=x.b+s}else x
theorem BP (x:eE):ep 0 x=x:=by
 unfold ep
 split
 ·simp
 ·split<;>simp
def BQ (op:Nat) (out:List eE):PP:=if 64<out.length then(3,[])else(0,out)
def pE (op:Nat) (a:PP):PP:=if a.1=3 then(3,[])else BQ op (a.2++[⟨op,0,0,(a.2.length:Int)-1,0⟩])
def mT (op:Nat) (a b:PP):PP:=if a.1=3∨b.1=3 then(3,[])else BQ op (a.2++b.2.map (ep a.2.length)++[⟨op,0,0,(a.2.length:Int)-1,((a.2.length+b.2.length:Nat):Int)-1⟩])
def xg (a b:PP):PP:=if a.1=1 then b else if b.1=1∨(a.1≠3∧a.2=b.2)then a else mT 5 a b
def yD (a b:PP):PP:=if a.1=1∨b.1=2 then a else if b.1=1∨a.1=2 then b else mT 4 a b
def u7 (a:PP):PP:=if a.1=1∨a.1=2 then(2,[⟨2,0,0,0,0⟩])else pE 8 a
structure yE (n:Nat) (x:eE):Prop where
 op:1≤x.op∧x.op≤8
 p:x.p<256
 nn:x.n<256
 a0:0≤x.a
 a1:x.a<n
 b0:0≤x.b
 b1:x.b<n
theorem yE.mono {n m:Nat} {x:eE} (h:yE n x) (hm:n≤m):yE m x:=⟨h.op,h.p,h.nn,h.a0,by have:=h.a1;omega,h.b0,by have:=h.b1;omega⟩
structure fB (a:PP):Prop where
 k:a.1≤3
 len:a.2.length≤64
 nil:a.1=3→a.2=[]
 ne:a.1≠3→a.2≠ []
 pc: ∀x∈a.2,yE a.2.length x
theorem fB.one {k o p n:Nat} (hk:k≤2) (ho:1≤o∧o≤8) (hp:p<256) (hn:n<256):fB (k,[⟨o,p,n,0,0⟩]):=
 ⟨bE hk (by decide),by simp,fun h=>absurd (show k=3 from h) (by omega),fun _=>by simp,fun x hx=>by rw[List.mem_singleton.1 hx];exact⟨ho,hp,hn,Int.le_refl _,Int.zero_lt_one,Int.le_refl _,Int.zero_lt_one⟩⟩
theorem fB.Hq:fB (3,[]):=⟨by decide,by simp,fun _=>rfl,fun h=>absurd F h,fun x hx=>by simp at hx⟩
theorem zl {op:Nat} {out:List eE} (wh:out≠ []) (h: ∀x∈out,yE out.length x):fB (BQ op out):=by
 unfold BQ
 split
 ·exact .Hq
 ·rename_i hl
  exact⟨bs _,by show out.length≤64;omega,fun h=>absurd (show 0=3 from h) (by decide),fun _=>wh,h⟩
theorem fB.pos {a:PP} (h:fB a) (h3:a.1≠3):0<a.2.length:=List.length_pos_iff.2 (h.ne h3)
theorem D4 {op:Nat} (ho:1≤op∧op≤8) {a:PP} (ha:fB a):fB (pE op a):=by
 unfold pE
 split
 ·exact .Hq
 ·rename_i h3
  have h0:=ha.pos h3
  refine zl (by simp) fun x hx=>?_
  rw[aF,List.length_singleton]
  rcases List.mem_append.1 hx with hx|hx
  ·exact(ha.pc x hx).mono (by omega)
  ·rw[List.mem_singleton.1 hx];exact⟨ho,by show 0<256;omega,by show 0<256;omega,by show 0≤(a.2.length:Int)-1;omega,by show(a.2.length:Int)-1<_;omega,Int.le_refl _,by show(0:Int)<_;omega⟩
theorem Rb {s n:Nat} {x:eE} (h:yE n x):yE (s+n) (ep s x):=by
 obtain⟨h1,h2,h3,h4,h5,h6,h7⟩:=h
 unfold ep
 split
 ·exact⟨h1,h2,h3,by show 0≤x.a+s;omega,by show x.a+s<_;omega,h6,by show x.b<_;omega⟩
 ·split
  ·exact⟨h1,h2,h3,by show 0≤x.a+s;omega,by show x.a+s<_;omega,by show 0≤x.b+s;omega,by show x.b+s<_;omega⟩
  ·exact⟨h1,h2,h3,h4,by omega,h6,by omega⟩
theorem xh {op:Nat} (ho:1≤op∧op≤8) {a b:PP} (ha:fB a) (hb:fB b):fB (mT op a b):=by
 unfold mT
 split
 ·exact .Hq
 ·rename_i h3
  have h0:=ha.pos (fun e=>h3 (.inl e))
  have h1:=hb.pos (fun e=>h3 (.inr e))
  refine zl (by simp) fun x hx=>?_
  rw[aF,aF,ar,List.length_singleton]
  rcases List.mem_append.1 hx with hx|hx
  ·rcases List.mem_append.1 hx with hx|hx
   ·exact(ha.pc x hx).mono (by omega)
   ·obtain⟨y,hy,rfl⟩:=List.mem_map.1 hx
    exact(Rb (hb.pc y hy)).mono (by omega)
  ·rw[List.mem_singleton.1 hx];exact⟨ho,by show 0<256;omega,by show 0<256;omega,by show 0≤(a.2.length:Int)-1;omega,by show(a.2.length:Int)-1<_;omega,by show(0:Int)≤((a.2.length+b.2.length:Nat):Int)-1;omega,by show((a.2.length+b.2.length:Nat):Int)-1<_;omega⟩
theorem ui {a b:PP} (ha:fB a) (hb:fB b):fB (xg a b):=by
 unfold xg
 split
 ·exact hb
 ·split
  ·exact ha
  ·exact xh (by decide) ha hb
theorem q9 {a b:PP} (ha:fB a) (hb:fB b):fB (yD a b):=by
 unfold yD
 split
 ·exact ha
 ·split
  ·exact hb
  ·exact xh (by decide) ha hb
theorem xi {a:PP} (ha:fB a):fB (u7 a):=by
 unfold u7
 split
 ·exact .one (by decide) (by decide) (by decide) (by decide)
 ·exact D4 (by decide) ha
structure ER where
 b:Option Addr
 c:Nat
 e:List eE
def ER.sM (T:TypeId) (r:ER):Item:=aq r.b r.c T 5 (bX r.e)
def dr (T:TypeId) (p:List ER):List Item:=p.map (ER.sM T)
def f_ (p:List ER) (r:ER):Prop:=r∈p∨r.e=[]
theorem f_.sl {T:TypeId} {w base:World} {O:List Item} {p:List ER} {r:ER} (hI:Inv base O w) (hO: ∀it∈dr T p,it∈O) (h:f_ p r):Sl w r.b (bX r.e):=by
 rcases h with h|h
 ·exact hI.gW (hO _ (List.mem_map.2 ⟨r,h,F⟩))
 ·rw[h];exact fun i hi=>absurd hi (by simp[bX])
theorem f_.mono {p q:List ER} {r:ER} (h:f_ p r) (hq: ∀x∈p,x∈q):f_ q r:=h.elim (fun h=>.inl (hq _ h)) .inr
theorem qi (T:TypeId) (p q:List ER):dr T (p++q)=dr T p++dr T q:=bo
structure PR where
 k:Nat
 r:ER
instance:Inhabited PR:=⟨⟨0,none,0,[]⟩⟩
def PR.pp (x:PR):PP:=(x.k,x.r.e)
abbrev PR.cells (x:PR):List Value:=[.int .u8 (x.k:Int),.slice x.r.b x.r.e.length x.r.c]
abbrev PR.val (x:PR):Value:=.agg #[.int .u8 (x.k:Int),.slice x.r.b x.r.e.length x.r.c]
def eD (l:List PR):List Value:=l.flatMap PR.cells
theorem gZ (l:List PR):(eD l).length=l.length*2:=by
 induction l with
 |nil=>rfl
 |cons p l ih=>simp only[eD,List.flatMap_cons,aF,bL,cN]at ih⊢;rw[ih];omega
theorem nD {l:List PR}: ∀ {i:Nat} (hi:i<l.length) (j:Nat) (h:j<l[i].cells.length),(eD l)[i*2+j]? =some l[i].cells[j]:=by
 induction l with
 |nil=>intro i hi;simp at hi
 |cons p l ih=>
  intro i hi j hj
  show(p.cells++eD l)[i*2+j]? =_
  cases i with
  |zero=>rw[Nat.zero_mul,Nat.zero_add,bI (show j<p.cells.length from hj)];exact ap hj
  |succ i=>
   have h3:p.cells.length=2:=rfl
   rw[bY (by rw[h3];omega),show(i+1)*2+j-p.cells.length=i*2+j by rw[h3];omega]
   exact ih (by simpa using hi) j hj
theorem s4 (l:List PR) (c:PR):eD (l++[c])=eD l++c.cells:=by simp[eD]
def TZ (T:TypeId) (a:List PR) (pp:PP) (v:Value) (N:List Item):Prop:= ∃(q:List ER) (c:PR),v=c.val∧N=dr T q∧c.pp=pp∧(f_ q c.r∨ ∃x∈a,c.r=x.r)
theorem lA (a b:List eE):bX (a++b)=bX a++bX b:=List.flatMap_append
end Go.Lx


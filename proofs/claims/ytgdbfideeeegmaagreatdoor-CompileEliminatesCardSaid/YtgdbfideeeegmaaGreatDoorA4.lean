/- Contracts of functions of the program, and what they answer. Conditions: those each theorem names. -/
import Derived.Test.YtgdbfideeeegmaaGreatDoorA2
import Derived.Test.YtgdbfideeeegmaaGreatDoorA3
set_option linter.unusedSectionVars false
set_option linter.unusedSimpArgs false
set_option linter.unusedVariables false
set_option linter.unnecessarySimpa false
set_option maxHeartbeats 8000000
set_option maxRecDepth 20000
namespace Go.Proofs.YtgdbfideeeegmaaGreatDoor
open Go.Lx Go.RowKit _root_.Go.Proofs.Tryz
theorem L9 (base:World) [cG Tryz.prog base] (bx m:Nat) (ks:List (List UInt8)) (key:List UInt8) (hk:key∈ks) (hb:ks.length<1000000):
  bw Tryz.prog base 168 [str key,.pointer (aD bx)] [da bx (.cells #[.map (some m)] 160 (0,0)),df str (fun n:Nat=>Value.int .i64 (n:Int)) m ks.zipIdx] (fun v O'=>v=vN (ix key (add ks key))∧O'=[da bx (.cells #[.map (some m)] 160 (0,0)),df str (fun n:Nat=>Value.int .i64 (n:Int)) m (add ks key).zipIdx]):=by
 refine av func168 F ntmps168 F ?_
 refine ai (TO.qa F (ae (ai (ad (aO 0 fV F F F F) (ah F (ad (a8 (jg (a:=key) fV aM (e8.string rO) F F (mG 1 F)) (v':=(.tuple #[vN (ix key ks),.bool true])) (by rw[kE];simp[hk])) (ah F (ad (bm (vs:=_) F F) (ad (bm (vs:=_) F F) (TO.qa F (TO.qa F (ae (ax (ai (ah F (ad (f_ F) (ae ?_)))))))))))))))))
 refine aL F (aq (ai (ah F (TO.qa F (ae (az ?_))))))
 refine aG (vN (ix key ks)) Tryz.results168 F ?_
 have ha:add ks key=ks:=if_pos hk
 rw[ha];exact⟨F,F⟩
theorem Jt (base:World) [cG Tryz.prog base] (bx m:Nat) (ks:List (List UInt8)) (key:List UInt8) (hk:key∉ks) (hb:ks.length<1000000):
  bw Tryz.prog base 168 [str key,.pointer (aD bx)] [da bx (.cells #[.map (some m)] 160 (0,0)),df str (fun n:Nat=>Value.int .i64 (n:Int)) m ks.zipIdx] (fun v O'=>v=vN (ix key (add ks key))∧O'=[da bx (.cells #[.map (some m)] 160 (0,0)),df str (fun n:Nat=>Value.int .i64 (n:Int)) m (add ks key).zipIdx]):=by
 refine av func168 F ntmps168 F ?_
 refine ai (TO.qa F (ae (ai (ad (aO 0 fV F F F F) (ah F (ad (a8 (jg (a:=key) fV aM (e8.string rO) F F (mG 1 F)) (v':=(.tuple #[vI 0,.bool false])) (by rw[kE];simp[hk])) (ah F (ad (bm (vs:=_) F F) (ad (bm (vs:=_) F F) (TO.qa F (TO.qa F (ae (ax (ai (ah F (ad (f_ F) (ae ?_)))))))))))))))))
 refine bg F ?_
 refine ai (ad (aO 0 fV F F F F) (ad (a8 (oB fV F (mG 1 F)) (v':=vN ks.length) (by simp)) (TO.qa F (ae (aH (ad (aO 0 fV F F F F) (ah F (ah F (aj F (oD (a:=key) (v:=ks.length) 1 fV (e8.string rO) F F F F (by rw[lO];exact hk) ?_))))))))))
 refine ae (ai (ah F (TO.qa F (ae (az ?_)))))
 refine aG (vN ks.length) Tryz.results168 F ?_
 have ha:add ks key=ks++[key]:=if_neg hk
 rw[ha]
 refine⟨by rw[ep hk];simp[ix],?_⟩
 rw[show(ks++[key]).zipIdx=ks.zipIdx++[(key,ks.length)] by rw[List.zipIdx_append];simp];rfl
theorem XB (base:World) [cG Tryz.prog base] (bx m:Nat) (ks:List (List UInt8)) (key:List UInt8) (hb:ks.length<1000000):
  bw Tryz.prog base 168 [str key,.pointer (aD bx)] [da bx (.cells #[.map (some m)] 160 (0,0)),df str (fun n:Nat=>Value.int .i64 (n:Int)) m ks.zipIdx] (fun v O'=>v=vN (ix key (add ks key))∧O'=[da bx (.cells #[.map (some m)] 160 (0,0)),df str (fun n:Nat=>Value.int .i64 (n:Int)) m (add ks key).zipIdx]):=by
 by_cases hk:key∈ks
 ·exact L9 base bx m ks key hk hb
 ·exact Jt base bx m ks key hk hb
theorem NS (w:World) [cG Tryz.prog w] (d:bY) (nb fb:Option Addr) (nc fc:Nat):bs Tryz.prog 51 [.agg (cB d nb nc fb fc).toArray] w fun v N=> ∃b,v=.func (.func 82) #[] #[.pointer (aD b)]∧N=[oI b 25 [(vI d.vars),(vI d.start),(.slice nb d.next.length nc),(.slice fb d.aA.length fc)]]:=by
 refine av func51 F ntmps51 F ?_
 refine ai (aj F (cL (cs:=[(vI d.vars),(vI d.start),(.slice nb d.next.length nc),(.slice fb d.aA.length fc)]) F F (fun b1=>?_)))
 refine TO.qa F (ae (ai (ad (dX) (TO.qa F (ae (az ?_))))))
 refine aG (.func (.func 82) #[] #[(.pointer (aD b1))]) Tryz.results51 F ?_
 exact⟨b1,F,F⟩
theorem NT (base:World) [cG Tryz.prog base] (d:bY) (nb fb:Option Addr) (nc fc:Nat) (vs:List Value) (h:eA base d nb vs fb) (hb:d.next.length<9223372036854775807) (bx:Nat) (yv:Value) (J:Nat→List Lx.Item→Prop) (Q:List Lx.Item→Prop)
  (hy: ∀k (hk:k<d.next.length) (vb:Option Addr) (vc:Nat) (O:List Lx.Item),vs[k]? =some (.slice vb d.next[k].length vc)→Sl base vb (ints d.next[k])→J k O→
   dW Tryz.prog base yv [vI (k:Int),.slice vb d.next[k].length vc] O (fun v O'=>(v=.bool true∧J (k+1) O')∨(v=.bool false∧Q O')))
  (O:List Lx.Item) (h0:J 0 O):bw Tryz.prog base 82 [yv,.pointer (aD bx)] (oI bx 25 [(vI d.vars),(vI d.start),(.slice nb d.next.length nc),(.slice fb d.aA.length fc)]::O) (fun _ O'=>J d.next.length O'∨Q O'):=by
 refine av func82 F ntmps82 F ?_
 have ut:=h.rows.1
 refine ai (ad (aJ cy F cU F F) (ad (aO 0 dB F F F F) (ad (bL dB F) (ah F (ae (aC ?_))))))
 let dS:List Lx.Item:=[oI bx 25 [(vI d.vars),(vI d.start),(.slice nb d.next.length nc),(.slice fb d.aA.length fc)]]
 refine ck (fun(k:Nat) ρ O=> ∃(O1:List Lx.Item),O=(dS++O1)∧k≤d.next.length∧J k O1∧bZ [(0,yv),(1,(.pointer (aD bx))),(6,(.slice nb d.next.length nc)),(7,vI (d.next.length:Int)),(8,vI (k:Int))] ρ) (fun k=>d.next.length-k) 0 ?_ ?_
 ·exact⟨O,F,Nat.zero_le _,h0,(.of F)⟩
 rintro k ρ O ⟨O1,rfl,hk,hJ,hH⟩
 obtain⟨eP,rfl⟩:=hH.elim
 clear hH
 refine ai (ad (bI F F) (ae (ax (aw F (fun hc=>?_) (fun hc=>?_)))))
 ·have iQ:k<d.next.length:=by omega
  obtain⟨vb,vc,g1,s1⟩:=h.rows.get iQ
  refine aq (ax (aC (ai (ah F (ad (cq (i:=k) dB bP F F (aB h.outer)) (ad (bS bT F F (aB h.outer) g1) (TO.qa F (TO.qa F (ae (ai (ah F (ah F (ah F ?_)))))))))))))
  have lN:=dW.under (B:=dS) (O:=(dS++O1)) (hy k iQ vb vc O1 g1 s1 hJ) (eB [])
  refine aj F (dQ lN F F ?_)
  clear lN
  rintro v O' ⟨O2,rfl,⟨rfl,VR⟩|⟨rfl,hQ2⟩⟩
  ·refine ad (f_ F) ?_
   refine ae (aL F (aq ?_))
   refine cu (O':=oI bx 25 [(vI d.vars),(vI d.start),(.slice nb d.next.length nc),(.slice fb d.aA.length fc)]::O2) (eB []) ?_
   refine aH (ad (ey F F (by omega)) (ah F (ae ?_)))
   exact⟨k+1,by omega,O2,F,by omega,VR,(.of F)⟩
  refine ad (f_ F) (ae ?_)
  refine bg F ?_
  refine az (ao ?_)
  refine qb.zero Tryz.results82 ?_
  exact⟨O2,eB dS,.inr hQ2⟩
 have Fa: ¬k<d.next.length:=by omega
 refine bn ?_
 refine ao ?_
 refine qb.zero Tryz.results82 ?_
 have Gs:k=d.next.length:=by omega
 subst Gs
 exact⟨O1,eB dS,.inl hJ⟩
theorem L_ (w:World) [cG Tryz.prog w] (d:bY) (nb fb:Option Addr) (nc fc:Nat) (vs:List Value) (h:eA w d nb vs fb) (hv:Valid d) (cb:Option Addr) (cc:Nat) (cs:List Nat) (uc:Sl w cb (aQ cs)) (mj:cs.length=d.next.length) (pI: ∀x∈cs,x<10000):
  bs Tryz.prog 119 [.agg (cB d nb nc fb fc).toArray,.slice cb d.next.length cc] w fun v N=> ∃b c,v=.slice b d.next.length c∧N=[ak b c 3 1 (aQ (gF d cs))]:=by
 refine av func119 F ntmps119 F ?_
 have hb:d.next.length<9223372036854775807:=by have:=hv.n4;omega
 have ut:=h.rows.1
 have MU:=hv.n4
 refine ai (aj F (cL (cs:=[(vI d.vars),(vI d.start),(.slice nb d.next.length nc),(.slice fb d.aA.length fc)]) F F (fun b1=>?_)))
 refine aj F (cL (cs:=[(.slice cb d.next.length cc)]) F F (fun b2=>?_))
 refine TO.qa F (ae (ai (aj F (lj str (fun n:Nat=>Value.int .i64 (n:Int)) (fun m3=>?_)))))
 refine aj F (aR zj F (fun b4=>?_))
 refine aj F (bj (vs:=[(.map (some m3))]) 0 zj F F F F ?_)
 refine ae (ai (ad (dX) (aj F (aR IZ F (fun b5=>?_)))))
 refine aj F (bj (vs:=[(.func (.func 168) #[] #[(.pointer (aD b4))])]) 0 IZ F F F F ?_)
 refine ae (ai (ad (aO 3 bT F F F F) (ad (bL bT F) (aj F (bV (m:=d.next.length) bT aM F F (by omega) (by omega) (fun b6=>?_))))))
 refine aj F (aR bP F (fun b7=>?_))
 refine aj F (bj (vs:=[(.slice (aD b6) d.next.length d.next.length)]) 0 bP F F F F ?_)
 refine ae (ax (ai (ad (cN 6 cy F aX F F F) ?_)))
 have oS:=fun(w1:World) (hI:Inv w [oI b7 56 [(.slice (aD b6) d.next.length d.next.length)],ak (aD b6) d.next.length 3 1 (List.replicate d.next.length (vI 0)),oI b5 180 [(.func (.func 168) #[] #[(.pointer (aD b4))])],oI b4 160 [(.map (some m3))],df str (fun n:Nat=>Value.int .i64 (n:Int)) m3 [],oI b2 56 [(.slice cb d.next.length cc)],oI b1 25 [(vI d.vars),(vI d.start),(.slice nb d.next.length nc),(.slice fb d.aA.length fc)]] w1)=>(haveI:=dp hI;NS w1 d nb fb nc fc)
 refine aj F (aI NK (aE oS) F ?_)
 clear oS
 rintro v O' ⟨N,rfl,bR,rfl,rfl⟩
 refine ae (aC ?_)
 refine T.rangeFunc (first:=[]) (fK:=[(.pointer (aD bR))]) F NN (fun yl yq XC=>?_)
 refine bw.mono (bw.sub (O':=oI bR 25 [(vI d.vars),(vI d.start),(.slice nb d.next.length nc),(.slice fb d.aA.length fc)]::(da yl (lp yq none)::[oI b7 56 [(.slice (aD b6) d.next.length d.next.length)],ak (aD b6) d.next.length 3 1 (List.replicate d.next.length (vI 0)),oI b5 180 [(.func (.func 168) #[] #[(.pointer (aD b4))])],oI b4 160 [(.map (some m3))],df str (fun n:Nat=>Value.int .i64 (n:Int)) m3 [],oI b2 56 [(.slice cb d.next.length cc)],oI b1 25 [(vI d.vars),(vI d.start),(.slice nb d.next.length nc),(.slice fb d.aA.length fc)]])) (au [1,0,0,0,0,0,0,0,0] F) (NT w d nb fb nc fc vs h hb bR (.func (.yield yl) #[] #[]) (fun k O=> ∃(xs:List Nat) (ks:List (List UInt8)),O=da yl (lp yq none)::[oI b7 56 [(.slice (aD b6) d.next.length d.next.length)],ak (aD b6) d.next.length 3 1 (aQ xs),oI b5 180 [(.func (.func 168) #[] #[(.pointer (aD b4))])],oI b4 160 [(.map (some m3))],df str (fun n:Nat=>Value.int .i64 (n:Int)) m3 ks.zipIdx,oI b2 56 [(.slice cb d.next.length cc)],oI b1 25 [(vI d.vars),(vI d.start),(.slice nb d.next.length nc),(.slice fb d.aA.length fc)]]∧k≤d.next.length∧xs.length=d.next.length∧ks=dd ((gL d cs).take k)∧(∀s,s<k→xs[s]? =some (ix (wB d cs s) ks))) (fun _=>False) ?_ _ ?_)) ?_
 ·intro k eU vb vc O g1 s1 hJ
  obtain⟨xs,ks,rfl,hk,Cn,nq,ku⟩:=hJ
  refine dW.yield XC F F ?_
  have Kj:k<cs.length:=by omega
  have sC:d.next[k].length=2^d.vars.toNat:=hv.len _ (List.getElem_mem eU)
  have yw:d.next[k].length≤64:=by
   rw[sC];have:=hv.v6;have:=hv.v0
   exact Nat.le_trans (Nat.pow_le_pow_right (by omega) (show d.vars.toNat≤6 by omega)) (by decide)
  have XD:ks.length<1000000:=by
   have h1:=s7 ((gL d cs).take k)
   have h2:((gL d cs).take k).length≤d.next.length:=by rw[List.length_take];simp[gL];omega
   rw[nq];omega
  have oX: ∀j (hj:j<d.next[k].length),0≤d.next[k][j]∧d.next[k][j].toNat<cs.length:=fun j hj=>by have:=hv.ok _ (List.getElem_mem eU) _ (List.getElem_mem hj);omega
  have Rm:cs[k]<10000:=pI _ (List.getElem_mem Kj)
  have B7: ∀x∈dy cs d.next[k],x<10000:=Ma pI
  refine ai (TO.qa F (ae (aH (TO.qa F (ae (aC (ax (T.dt 5 1 ?_))))))))
  refine aH (ad (aO 6 bT F F F F) (ah F (ad (cq (i:=k) bT aM F F (aB uc)) (ad (bS dh F F (aB uc) eK) ?_))))
  have Ju:=bw.under (B:=[oI b7 56 [(.slice (aD b6) d.next.length d.next.length)],ak (aD b6) d.next.length 3 1 (aQ xs),oI b5 180 [(.func (.func 168) #[] #[(.pointer (aD b4))])],oI b4 160 [(.map (some m3))],df str (fun n:Nat=>Value.int .i64 (n:Int)) m3 ks.zipIdx,oI b2 56 [(.slice cb d.next.length cc)],oI b1 25 [(vI d.vars),(vI d.start),(.slice nb d.next.length nc),(.slice fb d.aA.length fc)]]) (O:=[ak none 0 5 1 (cd []),oI b7 56 [(.slice (aD b6) d.next.length d.next.length)],ak (aD b6) d.next.length 3 1 (aQ xs),oI b5 180 [(.func (.func 168) #[] #[(.pointer (aD b4))])],oI b4 160 [(.map (some m3))],df str (fun n:Nat=>Value.int .i64 (n:Int)) m3 ks.zipIdx,oI b2 56 [(.slice cb d.next.length cc)],oI b1 25 [(vI d.vars),(vI d.start),(.slice nb d.next.length nc),(.slice fb d.aA.length fc)]]) (Pc w none 0 0 0 cs[k] [] F (Nat.lt_trans Rm (by decide)) (by omega)) (au [0,0,0,0,0,0,0,0] F)
  refine aj F (aI yL Ju F ?_)
  clear Ju
  rintro v O' ⟨A1,rfl,kb,kc,rfl,rfl⟩
  refine TO.qa F (ae (ax (ai (ah F (ad (bL bT F) (ah F (ae (aC ?_))))))))
  refine ck (fun(j:Nat) ρ O=> ∃(kb:Option Addr) (kc m:Nat),O=[ak kb kc 5 1 (cd (gf cs[k] (List.take j (dy cs d.next[k])))),oI b7 56 [(.slice (aD b6) d.next.length d.next.length)],ak (aD b6) d.next.length 3 1 (aQ xs),oI b5 180 [(.func (.func 168) #[] #[(.pointer (aD b4))])],oI b4 160 [(.map (some m3))],df str (fun n:Nat=>Value.int .i64 (n:Int)) m3 ks.zipIdx,oI b2 56 [(.slice cb d.next.length cc)],oI b1 25 [(vI d.vars),(vI d.start),(.slice nb d.next.length nc),(.slice fb d.aA.length fc)]]∧j≤d.next[k].length∧m=(gf cs[k] (List.take j (dy cs d.next[k]))).length∧bZ [(0,(.agg #[(vI d.vars),(vI d.start),(.slice nb d.next.length nc),(.slice fb d.aA.length fc)])),(1,(.slice cb d.next.length cc)),(2,(.pointer (aD b1))),(3,(.pointer (aD b2))),(4,nS),(5,(.pointer (aD b4))),(6,(.pointer (aD b5))),(7,(.pointer (aD b7))),(8,vI (k:Int)),(9,(.slice vb d.next[k].length vc)),(10,(.slice kb m kc)),(27,(.slice vb d.next[k].length vc)),(28,vI (d.next[k].length:Int)),(29,vI (j:Int))] ρ) (fun j=>d.next[k].length-j) 0 ?_ ?_
  ·refine⟨kb,kc,_,?_,Nat.zero_le _,?_,(.of F)⟩
   ·rw[show gf cs[k] (List.take 0 (dy cs d.next[k]))=[]++Lib.decDigits cs[k] by simp[gf,ik]]
    rfl
   ·simp[gf,ik]
  rintro j ρ O ⟨kb,kc,m,rfl,hj,hm,hH⟩
  obtain⟨eP,rfl⟩:=hH.elim
  clear hH
  have hm9:m≤324:=by
   have:=Jv Rm (fun x hx=>B7 x (List.mem_of_mem_take hx): ∀x∈List.take j (dy cs d.next[k]),x<10000)
   rw[List.length_take]at this;omega
  refine ai (ad (bI F F) (ae (ax (aw F (fun hc=>?_) (fun hc=>?_)))))
  ·have e_:j<d.next[k].length:=by omega
   have Y8:=(oX j e_).2
   refine aq (ax (aC (ai (ad (cq (i:=j) bT aM F F (aB s1)) (ad (bS dh F F (aB s1) d_) (TO.qa F (ae ?_)))))))
   refine T.ds [oI b2 56 [(.slice cb d.next.length cc)]] [(0,0),(3,0),(4,0),(5,0),(6,0),(1,1),(2,1),(7,2),(8,2)] (au [6] F) ?_
   refine am F (aF F) (am F (aO 0 bT F F F F) (am F (aF F) (am F (xE (i:=d.next[k][j]) bT aM F F (aB uc) (oX j e_).1 (mj▸(oX j e_).2) (by rw[List.length_map];exact(oX j e_).2)) (am F (bS dh F F (aB uc) (eK (oX j e_).2)) ?_))))
   refine bJ F F (bN (v:=.int .u8 32) lM cP F F F (fun b8=>⟨au [7] F,?_⟩))
   refine bJ F F (bX 1 lM lM cP F F F F (by rw[List.length_map,←hm,Nat.mul_one]) (by decide) (Src.row (j:=0) F (by simp)) (by simp[dD]) (by omega) (by decide) (by decide) (fun b9 XF=>⟨au [7] F,?_⟩))
   have oT:=bw.under (B:=[ak (aD b8) 1 5 1 [.int .u8 32],oI b7 56 [(.slice (aD b6) d.next.length d.next.length)],ak (aD b6) d.next.length 3 1 (aQ xs),oI b5 180 [(.func (.func 168) #[] #[(.pointer (aD b4))])],oI b4 160 [(.map (some m3))],df str (fun n:Nat=>Value.int .i64 (n:Int)) m3 ks.zipIdx,oI b2 56 [(.slice cb d.next.length cc)],oI b1 25 [(vI d.vars),(vI d.start),(.slice nb d.next.length nc),(.slice fb d.aA.length fc)]]) (O:=[ak (aD b8) 1 5 1 [.int .u8 32],ak b9 XF 5 1 ((cd (gf cs[k] (List.take j (dy cs d.next[k]))))++[.int .u8 32]),oI b7 56 [(.slice (aD b6) d.next.length d.next.length)],ak (aD b6) d.next.length 3 1 (aQ xs),oI b5 180 [(.func (.func 168) #[] #[(.pointer (aD b4))])],oI b4 160 [(.map (some m3))],df str (fun n:Nat=>Value.int .i64 (n:Int)) m3 ks.zipIdx,oI b2 56 [(.slice cb d.next.length cc)],oI b1 25 [(vI d.vars),(vI d.start),(.slice nb d.next.length nc),(.slice fb d.aA.length fc)]]) (Pc w b9 XF XF (m+1) cs[d.next[k][j].toNat] (gf cs[k] (List.take j (dy cs d.next[k]))++[32]) (by rw[List.length_append,←hm];rfl) (Nat.lt_trans (pI _ (List.getElem_mem (oX j e_).2)) (by decide)) (by omega)) (by rw[BO];exact(au [1,0,0,0,0,0,0,0,0] F))
   refine bq F F (aI yL oT F ?_)
   clear oT
   rintro v O' ⟨A1,rfl,Y9,Y_,rfl,rfl⟩
   refine de (O':=[ak Y9 Y_ 5 1 (cd (gf cs[k] (List.take j (dy cs d.next[k]))++[32]++Lib.decDigits cs[d.next[k][j].toNat])),oI b7 56 [(.slice (aD b6) d.next.length d.next.length)],ak (aD b6) d.next.length 3 1 (aQ xs),oI b5 180 [(.func (.func 168) #[] #[(.pointer (aD b4))])],oI b4 160 [(.map (some m3))],df str (fun n:Nat=>Value.int .i64 (n:Int)) m3 ks.zipIdx,oI b2 56 [(.slice cb d.next.length cc)],oI b1 25 [(vI d.vars),(vI d.start),(.slice nb d.next.length nc),(.slice fb d.aA.length fc)]]) (au [0,1,1,1,1,1,1,1] F) ?_
   refine bq F F (dG F F (cD F) ?_)
   refine bu ?_
   refine aH (ad (ey F F (by omega)) (ah F (ae ?_)))
   have pX:=Jw (a:=cs[k]) e_ (oX j e_).2
   refine⟨j+1,by omega,Y9,Y_,_,by rw[pX],by omega,?_,(.of F)⟩
   rw[pX,List.length_append,List.length_append,←hm];rfl
  have AB: ¬j<d.next[k].length:=by omega
  refine bn ?_
  have VS:j=d.next[k].length:=by omega
  have NU:List.take j (dy cs d.next[k])=dy cs d.next[k]:=List.take_of_length_le (by simp[dy];omega)
  have Za:wB d cs k=gf cs[k] (dy cs d.next[k]):=Mb eU Kj
  refine T.ds [ak kb kc 5 1 (cd (gf cs[k] (List.take j (dy cs d.next[k])))),oI b7 56 [(.slice (aD b6) d.next.length d.next.length)],ak (aD b6) d.next.length 3 1 (aQ xs),oI b5 180 [(.func (.func 168) #[] #[(.pointer (aD b4))])],oI b4 160 [(.map (some m3))],oI b2 56 [(.slice cb d.next.length cc)],oI b1 25 [(vI d.vars),(vI d.start),(.slice nb d.next.length nc),(.slice fb d.aA.length fc)]] [(0,0),(1,0),(2,0),(3,0),(4,0),(5,1),(6,0),(7,2)] (au [0,0,0,0,0,1,1] F) ?_
  refine am F (aO 1 bT F F F F) (am F (aF F) (am F (aO 3 UZ F F F F) (am F (aF F) (am F (Ai (l:=gf cs[k] (List.take j (dy cs d.next[k]))) lM rO eC F (mG 0 F) hm.symm) ?_))))
  have U0:=b_ (first:=[]) (args:=[str (gf cs[k] (List.take j (dy cs d.next[k])))]) (fK:=[(.pointer (aD b4))]) Qw (bw.under (B:=[ak kb kc 5 1 (cd (gf cs[k] (List.take j (dy cs d.next[k])))),oI b7 56 [(.slice (aD b6) d.next.length d.next.length)],ak (aD b6) d.next.length 3 1 (aQ xs),oI b5 180 [(.func (.func 168) #[] #[(.pointer (aD b4))])],oI b2 56 [(.slice cb d.next.length cc)],oI b1 25 [(vI d.vars),(vI d.start),(.slice nb d.next.length nc),(.slice fb d.aA.length fc)]]) (O:=[ak kb kc 5 1 (cd (gf cs[k] (List.take j (dy cs d.next[k])))),oI b7 56 [(.slice (aD b6) d.next.length d.next.length)],ak (aD b6) d.next.length 3 1 (aQ xs),oI b5 180 [(.func (.func 168) #[] #[(.pointer (aD b4))])],oI b4 160 [(.map (some m3))],df str (fun n:Nat=>Value.int .i64 (n:Int)) m3 ks.zipIdx,oI b2 56 [(.slice cb d.next.length cc)],oI b1 25 [(vI d.vars),(vI d.start),(.slice nb d.next.length nc),(.slice fb d.aA.length fc)]]) (XB w b4 m3 ks (gf cs[k] (List.take j (dy cs d.next[k]))) XD) (au [4,4,0,0,0,0,0,0] F))
  refine bJ F F (dQ U0 F F ?_)
  clear U0
  rintro v O' ⟨A1,rfl,rfl,rfl⟩
  refine⟨au [2,2,2,2,0,1,1] F,?_⟩
  refine de (O':=[ak kb kc 5 1 (cd (gf cs[k] (List.take j (dy cs d.next[k])))),oI b7 56 [(.slice (aD b6) d.next.length d.next.length)],ak (aD b6) d.next.length 3 1 (aQ xs),oI b5 180 [(.func (.func 168) #[] #[(.pointer (aD b4))])],oI b4 160 [(.map (some m3))],df str (fun n:Nat=>Value.int .i64 (n:Int)) m3 ((add ks (gf cs[k] (List.take j (dy cs d.next[k])))).zipIdx),oI b2 56 [(.slice cb d.next.length cc)],oI b1 25 [(vI d.vars),(vI d.start),(.slice nb d.next.length nc),(.slice fb d.aA.length fc)]]) (au [2,2,2,2,0,0,0,0] F) ?_
  refine am F (cq (i:=k) bT aM F F (cw (mG 2 F))) ?_
  refine bq F F (jW (j:=k) (v:=vI ((ix (gf cs[k] (List.take j (dy cs d.next[k]))) (add ks (gf cs[k] (List.take j (dy cs d.next[k])))):Nat):Int)) (vs:=[(vI ((ix (gf cs[k] (List.take j (dy cs d.next[k]))) (add ks (gf cs[k] (List.take j (dy cs d.next[k])))):Nat):Int))]) (cs:=aQ xs) 2 aM F F F F F (by simp) F (by first|(simp;omega)|(simp_all;omega)) ?_)
  refine de (O':=[ak kb kc 5 1 (cd (gf cs[k] (List.take j (dy cs d.next[k])))),oI b7 56 [(.slice (aD b6) d.next.length d.next.length)],ak (aD b6) d.next.length 3 1 (aQ (xs.set k (ix (gf cs[k] (List.take j (dy cs d.next[k]))) (add ks (gf cs[k] (List.take j (dy cs d.next[k]))))))),oI b5 180 [(.func (.func 168) #[] #[(.pointer (aD b4))])],oI b4 160 [(.map (some m3))],df str (fun n:Nat=>Value.int .i64 (n:Int)) m3 ((add ks (gf cs[k] (List.take j (dy cs d.next[k])))).zipIdx),oI b2 56 [(.slice cb d.next.length cc)],oI b1 25 [(vI d.vars),(vI d.start),(.slice nb d.next.length nc),(.slice fb d.aA.length fc)]]) (by rw[show dl (aQ xs) k [(vI ((ix (gf cs[k] (List.take j (dy cs d.next[k]))) (add ks (gf cs[k] (List.take j (dy cs d.next[k])))):Nat):Int))]=aQ (xs.set k (ix (gf cs[k] (List.take j (dy cs d.next[k]))) (add ks (gf cs[k] (List.take j (dy cs d.next[k]))))))from by simp[dl]];exact a_ (List.Sublist.refl _)) ?_
  refine de (O':=[oI b7 56 [(.slice (aD b6) d.next.length d.next.length)],ak (aD b6) d.next.length 3 1 (aQ (xs.set k (ix (gf cs[k] (List.take j (dy cs d.next[k]))) (add ks (gf cs[k] (List.take j (dy cs d.next[k]))))))),oI b5 180 [(.func (.func 168) #[] #[(.pointer (aD b4))])],oI b4 160 [(.map (some m3))],df str (fun n:Nat=>Value.int .i64 (n:Int)) m3 ((add ks (gf cs[k] (List.take j (dy cs d.next[k])))).zipIdx),oI b2 56 [(.slice cb d.next.length cc)],oI b1 25 [(vI d.vars),(vI d.start),(.slice nb d.next.length nc),(.slice fb d.aA.length fc)]]) (au [1,1,1,1,1,1,1] F) ?_
  refine bu ?_
  refine .inl ⟨F,xs.set k (ix (gf cs[k] (List.take j (dy cs d.next[k]))) (add ks (gf cs[k] (List.take j (dy cs d.next[k]))))),add ks (gf cs[k] (List.take j (dy cs d.next[k]))),F,by omega,by simp[Cn],?_,?_⟩
  ·rw[Dq eU,zr,←nq,Za,NU]
  ·intro s hs
   by_cases e:s=k
   ·subst e;rw[List.getElem?_set_self (by omega),Za,NU]
   ·rw[List.getElem?_set_ne (fun h=>e h.symm),ku s (by omega)]
    refine congrArg some (fM (gD _ _) ?_).symm
    rw[nq];exact ii.2 (Jx (by omega) (by omega))
 ·refine⟨List.replicate d.next.length 0,[],?_,Nat.zero_le _,by simp,by simp[dd],fun s hs=>absurd hs (by omega)⟩
  simp
 rintro v O' (⟨xs,ks,rfl,hk,Cn,nq,ku⟩|hF)
 rotate_left
 ·exact hF.elim
 refine⟨none,_,F,?_⟩
 refine ai (ad (aO 0 bT F F F F) (TO.qa F (ae (az (ao ?_)))))
 refine aG (.slice (aD b6) d.next.length d.next.length) Tryz.results119 F ?_
 have hx:xs=gF d cs:=by
  apply List.ext_getElem?
  intro s
  by_cases hs:s<d.next.length
  ·rw[ku s hs,nq,List.take_of_length_le (by simp[gL])];simp[gF,gL,hs]
  ·rw[List.getElem?_eq_none (by omega),List.getElem?_eq_none (by simp[gF,gL];omega)]
 exact⟨[ak (aD b6) d.next.length 3 1 (aQ xs)],(au [1] F),_,_,F,by rw[hx]⟩
theorem QL (w:World) [cG Tryz.prog w] (d:bY) (nb fb:Option Addr) (nc fc:Nat) (vs:List Value) (h:eA w d nb vs fb) (hv:Valid d):
  bs Tryz.prog 118 [.agg (cB d nb nc fb fc).toArray] w fun v N=> ∃b c,v=.slice b d.next.length c∧N=[ak b c 3 1 (aQ (kU d))]:=by
 refine av func118 F ntmps118 F ?_
 have MU:=hv.n4
 have GZ:=hv.n0
 have qp:=hv.fin
 let gz:Value:=(.slice fb d.aA.length fc)
 let gn:Value:=(.slice nb d.next.length nc)
 refine ai (aj F (cL (cs:=[(vI d.vars),(vI d.start),gn,gz]) F F (fun b1=>?_)))
 refine TO.qa F (ae (ai (ad (aJ cy F cU F F) (ad (aO 0 dB F F F F) (ad (bL dB F) (aj F (bV (m:=d.next.length) bT aM F F (by omega) (by omega) (fun b2=>?_))))))))
 refine TO.qa F (ae (ax (ai (ah F (ad (bL bT F) (ah F (ae (aC ?_))))))))
 refine ck (fun(k:Nat) ρ O=> ∃(xs:List Nat),O=[ak (aD b2) d.next.length 3 1 (aQ xs),oI b1 25 [(vI d.vars),(vI d.start),gn,gz]]∧k≤d.next.length∧xs.length=d.next.length∧(∀s,s<k→xs[s]? =some (if d.aA.getD s false≠d.aA.getD 0 false then 1 else 0))∧(∀s,k≤s→s<d.next.length→xs[s]? =some 0)∧bZ [(0,(.agg #[(vI d.vars),(vI d.start),gn,gz])),(1,(.pointer (aD b1))),(2,nS),(3,(.slice (aD b2) d.next.length d.next.length)),(10,vI (d.next.length:Int)),(11,vI (k:Int))] ρ) (fun k=>d.next.length-k) 0 ?_ ?_
 ·refine⟨List.replicate d.next.length 0,by simp,Nat.zero_le _,by simp,fun s hs=>absurd hs (by omega),fun s _ hs=>by simp[hs],(.of F)⟩
 rintro k ρ O ⟨xs,rfl,hk,Cn,Jy,Jz,hH⟩
 obtain⟨eP,rfl⟩:=hH.elim
 clear hH
 refine ai (ad (bI F F) (ae (ax (aw F (fun hc=>?_) (fun hc=>?_)))))
 ·have D_:k<d.next.length:=by omega
  have Gw:k<d.aA.length:=by omega
  have Zb:0<d.aA.length:=by omega
  have Zc:k<xs.length:=by omega
  refine aq (ax (aC (ai (ah F (TO.qa F (ae (ax ?_)))))))
  refine T.ds [oI b1 25 [(vI d.vars),(vI d.start),gn,gz]] [(0,0),(1,0),(2,0),(3,0),(4,0),(5,0),(6,0),(7,0),(8,0),(9,0)] (au [1] F) ?_
  refine am F (aJ cy F ce F F) (am F (aO 0 dF F F F F) (am F (aF F) (am F (cq (i:=k) dF dc F F (aB h.aA)) (am F (bS oe F F (aB h.aA) gu) (am F (aJ cy F ce F F) (am F (aO 0 dF F F F F) (am F (cq (i:=0) dF dc F F (aB h.aA)) (am F (bS oe F F (aB h.aA) gu) (am F (Ct oe F F) ?_)))))))))
  refine bu ?_
  refine aw (p:= ¬d.aA[k]=d.aA[0]) (congrArg Value.bool (by cases d.aA[k]<;>cases d.aA[0]<;>rfl)) (fun hc=>?_) (fun hc=>?_)
  ·refine aH ?_
   refine ah F (ah F (ad (cq (i:=k) bT aM F F (cw (mG 0 F))) (aj F (jW (j:=k) (v:=vI 1) (vs:=[(vI 1)]) (cs:=aQ xs) 0 aM F F F F F (by simp) F (by first|(simp;omega)|(simp_all;omega)) ?_))))
   refine bM (O':=[ak (aD b2) d.next.length 3 1 (aQ (xs.set k 1)),oI b1 25 [(vI d.vars),(vI d.start),gn,gz]]) (by rw[show dl (aQ xs) k [(vI 1)]=aQ (xs.set k 1)from by simp[dl]];exact a_ (List.Sublist.refl _)) ?_
   refine ae (aH (ad (ey F F (by omega)) (ah F (ae ?_))))
   refine⟨k+1,by omega,xs.set k 1,F,by omega,by simp[Cn],fun s hs=>?_,fun s h1 h2=>?_,(.of F)⟩
   ·by_cases e:s=k
    ·subst e;rw[List.getElem?_set_self (by omega)];simp[Gw,Zb,hc]
    ·rw[List.getElem?_set_ne (fun h=>e h.symm)];exact Jy s (by omega)
   ·rw[List.getElem?_set_ne (by omega)];exact Jz s (by omega) h2
  refine aq (aH (ad (ey F F (by omega)) (ah F (ae ?_))))
  refine⟨k+1,by omega,xs,F,by omega,Cn,fun s hs=>?_,fun s h1 h2=>Jz s (by omega) h2,(.of F)⟩
  by_cases e:s=k
  ·subst e;rw[Jz _ (Nat.le_refl _) D_];simp[Gw,Zb,Classical.not_not.1 hc]
  ·exact Jy s (by omega)
 have Tv: ¬k<d.next.length:=by omega
 refine bn ?_
 refine ai (ah F (TO.qa F (ae (az (ao ?_)))))
 refine aG (.slice (aD b2) d.next.length d.next.length) Tryz.results118 F ?_
 have hx:xs=kU d:=by
  apply List.ext_getElem?
  intro s
  by_cases hs:s<d.next.length
  ·rw[Jy s (by omega)];simp[kU,hs]
  ·rw[List.getElem?_eq_none (by omega),List.getElem?_eq_none (by simp[kU];omega)]
 exact⟨[ak (aD b2) d.next.length 3 1 (aQ xs)],(au [0] F),_,_,F,by rw[hx]⟩
theorem tY (w:World) [cG Tryz.prog w] (b1 b2:Option Addr) (c1 c2 n:Nat) (xs ys:List Nat) (h1:Sl w b1 (aQ xs)) (h2:Sl w b2 (aQ ys)) (hx:xs.length=n) (hy:ys.length=n) (hb:n<9223372036854775807):
  bs Tryz.prog 120 [.slice b1 n c1,.slice b2 n c2] w fun v N=>v=.bool (decide (xs=ys))∧N=[]:=by
 refine av func120 F ntmps120 F ?_
 refine ai (TO.qa F (ae (ax (ai (ah F (ad (bL bT F) (ah F (ad (bL bT F) (ad (cS F F) (ae (aw F (fun hc=>?_) (fun hc=>?_))))))))))))
 ·exact absurd hc (by omega)
 have tx: ¬n≠n:=by omega
 refine aq (ax (ai (ah F (ad (bL bT F) (ah F (ae (aC ?_)))))))
 refine ck (fun(k:Nat) ρ O=>O=[]∧k≤n∧xs.take k=ys.take k∧bZ [(0,(.slice b1 n c1)),(1,(.slice b2 n c2)),(12,vI (n:Int)),(13,vI (k:Int))] ρ) (fun k=>n-k) 0 ?_ ?_
 ·exact⟨F,Nat.zero_le _,F,⟨F,F,F,F,trivial⟩⟩
 rintro k ρ O ⟨rfl,hk,he,hH⟩
 obtain⟨eP,rfl⟩:=hH.elim
 clear hH
 refine ai (ad (bI F F) (ae (ax (aw F (fun hc=>?_) (fun hc=>?_)))))
 ·have me:k<n:=by omega
  have Zc:k<xs.length:=by omega
  have hky:k<ys.length:=by omega
  refine aq (ax (aC (ai (ah F (TO.qa F (ae (ax ?_)))))))
  refine dO [(0,0),(1,0),(2,0),(3,0),(4,0),(5,0),(6,0),(7,0),(8,0)] ?_
  refine am F (aF F) (am F (aF F) (am F (cq (i:=k) bT aM F F (aB h1)) (am F (bS dh F F (aB h1) eK) (am F (aF F) (am F (aF F) (am F (cq (i:=k) bT aM F F (aB h2)) (am F (bS dh F F (aB h2) eK) (am F (cS F F) ?_))))))))
  refine bu ?_
  refine aw (p:= ¬xs[k]=ys[k]) (congrArg Value.bool (decide_eq_decide.2 (by omega))) (fun hc=>?_) (fun hc=>?_)
  ·have gE:xs[k]≠ys[k]:=by omega
   refine ai (TO.qa F (ae (az ?_)))
   refine aG (.bool false) Tryz.results120 F ?_
   exact⟨congrArg Value.bool (decide_eq_false (fun e=>hc (by subst e;rfl))).symm,F⟩
  have xp: ¬xs[k]≠ys[k]:=by omega
  refine aq (aH (ad (ey F F (by omega)) (ah F (ae ?_))))
  refine⟨k+1,by omega,F,by omega,?_,⟨F,F,F,F,trivial⟩⟩
  rw[List.take_succ_eq_append_getElem Zc,List.take_succ_eq_append_getElem hky,he]
  exact congrArg _ (congrArg (fun z=>[z]) (Classical.not_not.1 hc))
 have mR: ¬k<n:=by omega
 refine bn ?_
 refine ai (TO.qa F (ae (az ?_)))
 refine aG (.bool true) Tryz.results120 F ?_
 exact⟨congrArg Value.bool (decide_eq_true (show xs=ys by rw[List.take_of_length_le (by omega),List.take_of_length_le (by omega)]at he;exact he)).symm,F⟩
theorem F9 (w:World) [cG Tryz.prog w] (d:bY) (nb fb:Option Addr) (nc fc:Nat) (vs:List Value) (h:eA w d nb vs fb) (hb:d.next.length<9223372036854775807) (jy: ∀r∈d.next,r.length<9223372036854775807) (j6:d.aA.length<9223372036854775807) (he:bW d≠0) (k:Int):
  bs Tryz.prog 81 [.agg (cB d nb nc fb fc).toArray,vI k] w fun v N=>v=.tuple #[nS,vI (bW d:Int)]∧N=[]:=by
 refine av func81 F ntmps81 F ?_
 refine ai (aj F (cL (cs:=[(vI d.vars),(vI d.start),(.slice nb d.next.length nc),(.slice fb d.aA.length fc)]) F F (fun b1=>?_)))
 refine TO.qa F (TO.qa F (ae (ax (ai (ad (cN 0 cy F aX F F F) ?_)))))
 have lK:=fun(w1:World) (hI:Inv w [oI b1 25 [(vI d.vars),(vI d.start),(.slice nb d.next.length nc),(.slice fb d.aA.length fc)]] w1)=>(haveI:=dp hI;mf w1 d nb fb nc fc vs (hI.u4 h) hb jy j6)
 refine aj F (aI Ex (aE lK) F ?_)
 clear lK
 rintro v O' ⟨N,rfl,rfl,rfl⟩
 refine TO.qa F (ae (ai (ah F (ad (ar (cS F F) (decide_eq_true (by omega))) (ae ?_)))))
 refine bg F ?_
 refine ai (ah F (TO.qa F (TO.qa F (ae (az (ao ?_))))))
 refine ct nS (vI (bW d:Int)) Tryz.results81 F F ?_
 exact⟨[],a_ (List.nil_sublist _),F,F⟩
theorem JA (w:World) [cG Tryz.prog w] (d:bY) (nb fb:Option Addr) (nc fc:Nat) (vs:List Value) (h:eA w d nb vs fb) (hv:Valid d) (hn:d.next.length<10000) (k:Int) (nF:k≤9223372036854775807):
  bs Tryz.prog 81 [.agg (cB d nb nc fb fc).toArray,vI k] w fun v N=> ∃b c,v=.tuple #[.slice b d.next.length c,vI 0]∧N=[ak b c 3 1 (aQ (fj d k.toNat))]:=by
 refine av func81 F ntmps81 F ?_
 have he:=dr.2 hv
 have hb:d.next.length<9223372036854775807:=by omega
 have jy: ∀r∈d.next,r.length<9223372036854775807:=hv.uQ
 have j6:d.aA.length<9223372036854775807:=by have:=hv.fin;omega
 let gN:Value:=(.slice fb d.aA.length fc)
 let kn:Value:=(.slice nb d.next.length nc)
 refine ai (aj F (cL (cs:=[(vI d.vars),(vI d.start),kn,gN]) F F (fun b1=>?_)))
 refine TO.qa F (TO.qa F (ae (ax (ai (ad (cN 0 cy F aX F F F) ?_)))))
 have lK:=fun(w1:World) (hI:Inv w [oI b1 25 [(vI d.vars),(vI d.start),kn,gN]] w1)=>(haveI:=dp hI;mf w1 d nb fb nc fc vs (hI.u4 h) hb jy j6)
 refine aj F (aI Ex (aE lK) F ?_)
 clear lK
 rintro v O' ⟨N,rfl,rfl,rfl⟩
 rw[he]
 refine TO.qa F (ae (ai (ah F (ad (cS F F) (ae (aL F (aq (ai (ad (cN 0 cy F aX F F F) ?_)))))))))
 have H1:=fun(w1:World) (hI:Inv w [oI b1 25 [(vI d.vars),(vI d.start),kn,gN]] w1)=>(haveI:=dp hI;QL w1 d nb fb nc fc vs (hI.u4 h) hv)
 refine aj F (aI Qr (aE H1) F ?_)
 clear H1
 rintro v O' ⟨N,rfl,b0,c0,rfl,rfl⟩
 refine TO.qa F (ae (ax (ai (ah F (ah F (ae (aC ?_)))))))
 refine ck (fun(i:Nat) ρ O=> ∃(b:Option Addr) (c:Nat),O=[ak b c 3 1 (aQ (fj d i)),oI b1 25 [(vI d.vars),(vI d.start),kn,gN]]∧i≤k.toNat∧bZ [(0,(.agg #[(vI d.vars),(vI d.start),kn,gN])),(1,vI k),(2,(.pointer (aD b1))),(4,nS),(5,vI 0),(6,vN 0),(7,(.slice b d.next.length c)),(16,vI k),(17,vI (i:Int))] ρ) (fun i=>k.toNat-i) 0 ?_ ?_
 ·exact⟨b0,c0,F,Nat.zero_le _,(.of F)⟩
 rintro i ρ O ⟨b,c,rfl,Q6,hH⟩
 obtain⟨eP,rfl⟩:=hH.elim
 clear hH
 refine ai (ad (bI F F) (ae (ax (aw F (fun hc=>?_) (fun hc=>?_)))))
 ·have hik:i<k.toNat:=by omega
  refine aq (ax (aC (ai (ad (cN 1 cy F aX F F F) (ah F ?_)))))
  have U1:=fun(w1:World) (hI:Inv w [ak b c 3 1 (aQ (fj d i)),oI b1 25 [(vI d.vars),(vI d.start),kn,gN]] w1)=>(haveI:=dp hI;L_ w1 d nb fb nc fc vs (hI.u4 h) hv b c (fj d i) (hI.eV (mG 0 F)) (dw d i) (JB hn i))
  refine aj F (aI Qs (aE U1) F ?_)
  clear U1
  rintro v O' ⟨N,rfl,b9,c9,rfl,rfl⟩
  refine TO.qa F (ae (ax (ai (ah F (ah F ?_)))))
  by_cases pX:gF d (fj d i)=fj d i
  ·have oW:=fun(w1:World) (hI:Inv w [ak b9 c9 3 1 (aQ (gF d (fj d i))),ak b c 3 1 (aQ (fj d i)),oI b1 25 [(vI d.vars),(vI d.start),kn,gN]] w1)=>(haveI:=dp hI;tY w1 b9 b c9 c d.next.length (gF d (fj d i)) (fj d i) (hI.eV (mG 0 F)) (hI.eV (mG 1 F)) (dw d (i+1)) (dw d i) (by omega))
   refine aj F (aI I3 (aE oW) F ?_)
   clear oW
   rintro v O' ⟨N,rfl,rfl,rfl⟩
   rw[decide_eq_true pX]
   refine ae ?_
   refine bg F ?_
   refine bn ?_
   refine ai (ah F (TO.qa F (TO.qa F (ae (az (ao ?_))))))
   refine ct (.slice b d.next.length c) (vI 0) Tryz.results81 F F ?_
   have hx:fj d k.toNat=fj d i:=q_ pX _ Q6
   exact⟨[ak b c 3 1 (aQ (fj d i))],(au [1] F),_,_,F,by rw[hx]⟩
  have oW:=fun(w1:World) (hI:Inv w [ak b9 c9 3 1 (aQ (gF d (fj d i))),ak b c 3 1 (aQ (fj d i)),oI b1 25 [(vI d.vars),(vI d.start),kn,gN]] w1)=>(haveI:=dp hI;tY w1 b9 b c9 c d.next.length (gF d (fj d i)) (fj d i) (hI.eV (mG 0 F)) (hI.eV (mG 1 F)) (dw d (i+1)) (dw d i) (by omega))
  refine aj F (aI I3 (aE oW) F ?_)
  clear oW
  rintro v O' ⟨N,rfl,rfl,rfl⟩
  rw[decide_eq_false pX]
  refine ae (aL F (aq (aH (ah F (TO.qa F (ae (aH (ad (ey F F (by omega)) (ah F ?_)))))))))
  refine bM (O':=[ak b9 c9 3 1 (aQ (gF d (fj d i))),oI b1 25 [(vI d.vars),(vI d.start),kn,gN]]) (au [0,1] F) ?_
  refine ae ?_
  exact⟨i+1,by omega,b9,c9,F,by omega,(.of F)⟩
 refine bn ?_
 refine ai (ah F (TO.qa F (TO.qa F (ae (az (ao ?_))))))
 refine ct (.slice b d.next.length c) (vI 0) Tryz.results81 F F ?_
 have hx:fj d k.toNat=fj d i:=by rw[show k.toNat=i by omega]
 exact⟨[ak b c 3 1 (aQ (fj d i))],(au [0] F),_,_,F,by rw[hx]⟩
theorem Dr (w:World) [cG Tryz.prog w] (d:bY) (nb fb:Option Addr) (nc fc:Nat) (vs:List Value) (h:eA w d nb vs fb) (hb:d.next.length<9223372036854775807) (jy: ∀r∈d.next,r.length<9223372036854775807) (j6:d.aA.length<9223372036854775807) (he:bW d≠0):
  bs Tryz.prog 50 [.agg (cB d nb nc fb fc).toArray] w fun v N=>v=.tuple #[nS,vI (bW d:Int)]∧N=[]:=by
 refine av func50 F ntmps50 F ?_
 refine ai (aj F (cL (cs:=[(vI d.vars),(vI d.start),(.slice nb d.next.length nc),(.slice fb d.aA.length fc)]) F F (fun b1=>?_)))
 refine TO.qa F (TO.qa F (ae (ai (ad (cN 0 cy F aX F F F) (ad (aJ cy F cU F F) (ad (aO 0 dB F F F F) (ad (bL dB F) ?_)))))))
 have DV:=fun(w1:World) (hI:Inv w [oI b1 25 [(vI d.vars),(vI d.start),(.slice nb d.next.length nc),(.slice fb d.aA.length fc)]] w1)=>(haveI:=dp hI;F9 w1 d nb fb nc fc vs (hI.u4 h) hb jy j6 he d.next.length)
 refine aj F (aI NM (aE DV) F ?_)
 clear DV
 rintro v O' ⟨N,rfl,rfl,rfl⟩
 refine ad (bm (vs:=_) F F) (ad (bm (vs:=_) F F) (TO.qa F (TO.qa F (ae (az (ao ?_))))))
 refine ct nS (vI (bW d:Int)) Tryz.results50 F F ?_
 exact⟨[],a_ (List.nil_sublist _),F,F⟩
theorem F_ (w:World) [cG Tryz.prog w] (d:bY) (nb fb:Option Addr) (nc fc:Nat) (vs:List Value) (h:eA w d nb vs fb) (hv:Valid d) (hn:d.next.length<10000):
  bs Tryz.prog 50 [.agg (cB d nb nc fb fc).toArray] w fun v N=> ∃b c,v=.tuple #[.slice b d.next.length c,vI 0]∧N=[ak b c 3 1 (aQ (fj d d.next.length))]:=by
 refine av func50 F ntmps50 F ?_
 refine ai (aj F (cL (cs:=[(vI d.vars),(vI d.start),(.slice nb d.next.length nc),(.slice fb d.aA.length fc)]) F F (fun b1=>?_)))
 refine TO.qa F (TO.qa F (ae (ai (ad (cN 0 cy F aX F F F) (ad (aJ cy F cU F F) (ad (aO 0 dB F F F F) (ad (bL dB F) ?_)))))))
 have DV:=fun(w1:World) (hI:Inv w [oI b1 25 [(vI d.vars),(vI d.start),(.slice nb d.next.length nc),(.slice fb d.aA.length fc)]] w1)=>(haveI:=dp hI;JA w1 d nb fb nc fc vs (hI.u4 h) hv hn d.next.length (by omega))
 refine aj F (aI NM (aE DV) F ?_)
 clear DV
 rintro v O' ⟨N,rfl,b,c,rfl,rfl⟩
 refine ad (bm (vs:=_) F F) (ad (bm (vs:=_) F F) (TO.qa F (TO.qa F (ae (az (ao ?_))))))
 refine ct (.slice b d.next.length c) (vI 0) Tryz.results50 F F ?_
 exact⟨[ak b c 3 1 (aQ (fj d d.next.length))],(au [0] F),_,_,F,F⟩
end Go.Proofs.YtgdbfideeeegmaaGreatDoor

namespace Go.Proofs.YtgdbfideeeegmaaGreatDoor
open Go.Lx Go.RowKit _root_.Go.Proofs.Tryz
theorem JR (base:World) [cG Tryz.prog base] (bx m:Nat) (ks:List (List UInt8)) (key:List UInt8) (hk:key∈ks) (hb:ks.length<1000000):
  bw Tryz.prog base 124 [str key,.pointer (aD bx)] [da bx (.cells #[.map (some m)] 160 (0,0)),df str (fun n:Nat=>Value.int .i64 (n:Int)) m ks.zipIdx] (fun v O'=>v=vN (ix key (add ks key))∧O'=[da bx (.cells #[.map (some m)] 160 (0,0)),df str (fun n:Nat=>Value.int .i64 (n:Int)) m (add ks key).zipIdx]):=by
 refine av func124 F ntmps124 F ?_
 refine ai (TO.qa F (ae (ai (ad (aO 0 fV F F F F) (ah F (ad (a8 (jg (a:=key) fV aM (e8.string rO) F F (mG 1 F)) (v':=(.tuple #[vN (ix key ks),.bool true])) (by rw[kE];simp[hk])) (ah F (ad (bm (vs:=_) F F) (ad (bm (vs:=_) F F) (TO.qa F (TO.qa F (ae (ax (ai (ah F (ad (f_ F) (ae ?_)))))))))))))))))
 refine aL F (aq (ai (ah F (TO.qa F (ae (az ?_))))))
 refine aG (vN (ix key ks)) Tryz.results124 F ?_
 have ha:add ks key=ks:=if_pos hk
 rw[ha];exact⟨F,F⟩
theorem Gh (base:World) [cG Tryz.prog base] (bx m:Nat) (ks:List (List UInt8)) (key:List UInt8) (hk:key∉ks) (hb:ks.length<1000000):
  bw Tryz.prog base 124 [str key,.pointer (aD bx)] [da bx (.cells #[.map (some m)] 160 (0,0)),df str (fun n:Nat=>Value.int .i64 (n:Int)) m ks.zipIdx] (fun v O'=>v=vN (ix key (add ks key))∧O'=[da bx (.cells #[.map (some m)] 160 (0,0)),df str (fun n:Nat=>Value.int .i64 (n:Int)) m (add ks key).zipIdx]):=by
 refine av func124 F ntmps124 F ?_
 refine ai (TO.qa F (ae (ai (ad (aO 0 fV F F F F) (ah F (ad (a8 (jg (a:=key) fV aM (e8.string rO) F F (mG 1 F)) (v':=(.tuple #[vI 0,.bool false])) (by rw[kE];simp[hk])) (ah F (ad (bm (vs:=_) F F) (ad (bm (vs:=_) F F) (TO.qa F (TO.qa F (ae (ax (ai (ah F (ad (f_ F) (ae ?_)))))))))))))))))
 refine bg F ?_
 refine ai (ad (aO 0 fV F F F F) (ad (a8 (oB fV F (mG 1 F)) (v':=vN ks.length) (by simp)) (TO.qa F (ae (aH (ad (aO 0 fV F F F F) (ah F (ah F (aj F (oD (a:=key) (v:=ks.length) 1 fV (e8.string rO) F F F F (by rw[lO];exact hk) ?_))))))))))
 refine ae (ai (ah F (TO.qa F (ae (az ?_)))))
 refine aG (vN ks.length) Tryz.results124 F ?_
 have ha:add ks key=ks++[key]:=if_neg hk
 rw[ha]
 refine⟨by rw[ep hk];simp[ix],?_⟩
 rw[show(ks++[key]).zipIdx=ks.zipIdx++[(key,ks.length)] by rw[List.zipIdx_append];simp];rfl
theorem Vd (base:World) [cG Tryz.prog base] (bx m:Nat) (ks:List (List UInt8)) (key:List UInt8) (hb:ks.length<1000000):
  bw Tryz.prog base 124 [str key,.pointer (aD bx)] [da bx (.cells #[.map (some m)] 160 (0,0)),df str (fun n:Nat=>Value.int .i64 (n:Int)) m ks.zipIdx] (fun v O'=>v=vN (ix key (add ks key))∧O'=[da bx (.cells #[.map (some m)] 160 (0,0)),df str (fun n:Nat=>Value.int .i64 (n:Int)) m (add ks key).zipIdx]):=by
 by_cases hk:key∈ks
 ·exact JR base bx m ks key hk hb
 ·exact Gh base bx m ks key hk hb
theorem JS (base:World) [cG Tryz.prog base] (tr:List UInt8→Nat→List UInt8) (L B:Nat) (start:List UInt8) (fv:Value) (J:List (List UInt8)→List Lx.Item→Prop) (Good:List (List UInt8)→Prop) (hL:L≤64) (hB:B≤4096)
  (hn: ∀(ks:List (List UInt8)) (s x:Nat) (O:List Lx.Item),s<ks.length→x<L→Good ks→J ks O→dW Tryz.prog base fv [vI (s:Int),.int .u8 (x:Int)] O (fun v O'=>v=str (tr (ks.getD s []) x)∧Good (add ks (tr (ks.getD s []) x))∧J (add ks (tr (ks.getD s []) x)) O'))
  (hg: ∀ks,Good ks→ks.length≤B) (O:List Lx.Item) (h0:Good [start]) (XN:J [start] O):
  bw Tryz.prog base 86 [vI (L:Int),vI (B:Int),str start,fv] O (fun v O'=> ∃b c qs N O1,v=.tuple #[.slice b N c,.bool true]∧O'=ak b c 56 1 (bO qs)::(bl 3 qs++O1)∧J (uo tr L start N) O1∧Good (uo tr L start N)∧(uo tr L start N).length=N∧nM tr L (uo tr L start N) N (nums qs)∧ ∀i,i<N→i<(uo tr L start i).length):=by
 refine av func86 F ntmps86 F ?_
 refine ai (TO.qa F (TO.qa F (ae ?_)))
 refine T.scope ?_ (fun _ _ _ h=>h)
 refine ai (aj F (lj str (fun n:Nat=>Value.int .i64 (n:Int)) (fun m1=>?_)))
 refine ah F (aj F (fD (a:=start) (v:=(0:Nat)) 0 fV (e8.string rO) F F F F (by simp) ?_))
 refine ah F (aj F (aR zj F (fun b2=>?_)))
 refine aj F (bj (vs:=[(.map (some m1))]) 0 zj F F F F ?_)
 refine ae (ai (ad (dX) (TO.qa F (ae (ax ?_)))))
 refine T.label ?_
 refine ax (ai (TO.qa F (ae (aC (T.dt 56 1 ?_)))))
 refine ck (fun(s:Nat) ρ O=> ∃(ks:List (List UInt8)) (qs:List Rec) (ob:Option Addr) (oc:Nat) (O1:List Lx.Item),O=([ak ob oc 56 1 (bO qs),oI b2 160 [(.map (some m1))],df str (fun n:Nat=>Value.int .i64 (n:Int)) m1 ks.zipIdx]++(bl 3 qs++O1))∧uo tr L start s=ks∧Good ks∧J ks O1∧nM tr L ks s (nums qs)∧(∀i,i<s→i<(uo tr L start i).length)∧bZ [(0,vI (L:Int)),(1,vI (B:Int)),(2,str start),(3,fv),(8,(.slice ob s oc)),(9,.bool false),(10,(.pointer (aD b2))),(11,(.func (.func 124) #[] #[(.pointer (aD b2))])),(12,vI (s:Int))] ρ) (fun s=>B-s) 0 ?_ ?_
 ·exact⟨[start],[],none,0,O,F,F,h0,XN,⟨F,by simp,fun i hi=>absurd hi (by omega),fun i hi=>absurd hi (by omega)⟩,fun i hi=>absurd hi (by omega),(.of F)⟩
 rintro s ρ O ⟨ks,qs,ob,oc,O1,rfl,nq,hG,hJ,hE,kT,hH⟩
 obtain⟨eP,rfl⟩:=hH.elim
 clear hH
 have hgl:=hg _ hG
 have wO:qs.length=s:=by have:=hE.len;simpa using this
 refine ax (ai (ah F (ad (aO 1 fV F F F F) (ad (a8 (oB fV F (mG 2 F)) (v':=vI (ks.length:Int)) (by rw[List.length_zipIdx])) (ad (bI F F) (ae (aw F (fun hc=>?_) (fun hc=>?_))))))))
 ·have qf:s<ks.length:=by omega
  refine aq (ax (aC (ai (ah F (aj F (bV (m:=L) bT aM F F (by omega) (by omega) (fun b3=>?_)))))))
  refine TO.qa F (ae (ax (ai (ah F (ad (bL bT F) (ah F (ae (aC ?_))))))))
  refine ck (fun(x:Nat) ρ O=> ∃(cV:List (List UInt8)) (ys:List Int) (O2:List Lx.Item),O=([ak (aD b3) L 3 1 (ints ys),ak ob oc 56 1 (bO qs),oI b2 160 [(.map (some m1))],df str (fun n:Nat=>Value.int .i64 (n:Int)) m1 cV.zipIdx]++(bl 3 qs++O2))∧x≤L∧ys.length=L∧Good cV∧J cV O2∧cV=((List.range x).map (tr (ks.getD s []))).foldl add ks∧(∀i,i<x→ys[i]? =some ((ix (tr (ks.getD s []) i) cV:Nat):Int))∧bZ [(0,vI (L:Int)),(1,vI (B:Int)),(2,str start),(3,fv),(8,(.slice ob s oc)),(9,.bool false),(10,(.pointer (aD b2))),(11,(.func (.func 124) #[] #[(.pointer (aD b2))])),(12,vI (s:Int)),(13,(.slice (aD b3) L L)),(28,vI (L:Int)),(29,vI (x:Int))] ρ) (fun x=>L-x) 0 ?_ ?_
  ·exact⟨ks,List.replicate L 0,O1,by simp,Nat.zero_le _,by simp,hG,hJ,F,fun i hi=>absurd hi (by omega),(.of F)⟩
  rintro x ρ O ⟨cV,ys,O2,rfl,hx,yN,VV,VR,l7,wS,hH⟩
  obtain⟨eP,rfl⟩:=hH.elim
  clear hH
  have aa3:=hg _ VV
  have og:ks<+:cV:=l7▸eY _ _
  have mP:cV.getD s []=ks.getD s []:=jr og qf
  have Pk:=og.length_le
  refine ai (ad (bI F F) (ae (ax (aw F (fun hc=>?_) (fun hc=>?_)))))
  ·have e_:x<L:=by omega
   refine aq (ax (aC (ai (ah F (TO.qa F (ae (ai (ah F (ah F (ah F (ah F (ah F (ah F (ad (ef dh eC F (show IntKind.u8.wrap (x:Int)=(x:Int) by unfold IntKind.wrap;simp[IntKind.bits,IntKind.signed];omega)) ?_))))))))))))))
   have HU:=dW.under (B:=[ak (aD b3) L 3 1 (ints ys),ak ob oc 56 1 (bO qs),oI b2 160 [(.map (some m1))],df str (fun n:Nat=>Value.int .i64 (n:Int)) m1 cV.zipIdx]++bl 3 qs) (O:=([ak (aD b3) L 3 1 (ints ys),ak ob oc 56 1 (bO qs),oI b2 160 [(.map (some m1))],df str (fun n:Nat=>Value.int .i64 (n:Int)) m1 cV.zipIdx]++(bl 3 qs++O2))) (hn cV s x O2 (by omega) e_ VV VR) (eB [])
   refine aj F (dQ HU F F ?_)
   clear HU
   rintro v O' ⟨O3,rfl,rfl,XO,Zn⟩
   refine bM (O':=([ak (aD b3) L 3 1 (ints ys),ak ob oc 56 1 (bO qs),oI b2 160 [(.map (some m1))],df str (fun n:Nat=>Value.int .i64 (n:Int)) m1 cV.zipIdx]++(bl 3 qs++O3))) (eB []) ?_
   rw[mP]at XO Zn⊢
   have oT:=b_ (first:=[]) (args:=[str (tr (ks.getD s []) x)]) (fK:=[(.pointer (aD b2))]) Qt (bw.under (B:=[ak (aD b3) L 3 1 (ints ys),ak ob oc 56 1 (bO qs)]++(bl 3 qs++O3)) (O:=([ak (aD b3) L 3 1 (ints ys),ak ob oc 56 1 (bO qs),oI b2 160 [(.map (some m1))],df str (fun n:Nat=>Value.int .i64 (n:Int)) m1 cV.zipIdx]++(bl 3 qs++O3))) (Vd base b2 m1 cV (tr (ks.getD s []) x) (by have:=hg _ VV;omega)) (ez [2,2,0,0] [ak (aD b3) L 3 1 (ints ys),ak ob oc 56 1 (bO qs),oI b2 160 [(.map (some m1))],df str (fun n:Nat=>Value.int .i64 (n:Int)) m1 cV.zipIdx] (bl 3 qs++O3) F F))
   refine aj F (dQ oT F F ?_)
   clear oT
   rintro v O' ⟨A1,rfl,rfl,rfl⟩
   refine bM (O':=([ak (aD b3) L 3 1 (ints ys),ak ob oc 56 1 (bO qs),oI b2 160 [(.map (some m1))],df str (fun n:Nat=>Value.int .i64 (n:Int)) m1 ((add cV (tr (ks.getD s []) x)).zipIdx)]++(bl 3 qs++O3))) (ez [2,2,0,0] [oI b2 160 [(.map (some m1))],df str (fun n:Nat=>Value.int .i64 (n:Int)) m1 ((add cV (tr (ks.getD s []) x)).zipIdx),ak (aD b3) L 3 1 (ints ys),ak ob oc 56 1 (bO qs)] (bl 3 qs++O3) F F) ?_
   refine ad (cq (i:=x) bT aM F F (cw (mG 0 F))) (aj F (jW (j:=x) (v:=vN (ix (tr (ks.getD s []) x) (add cV (tr (ks.getD s []) x)))) (vs:=[(vN (ix (tr (ks.getD s []) x) (add cV (tr (ks.getD s []) x))))]) (cs:=ints ys) 0 aM F F F F F (by simp) F (by first|(simp;omega)|(simp_all;omega)) ?_))
   refine bM (O':=([ak (aD b3) L 3 1 (ints (ys.set x ((ix (tr (ks.getD s []) x) (add cV (tr (ks.getD s []) x)):Nat):Int))),ak ob oc 56 1 (bO qs),oI b2 160 [(.map (some m1))],df str (fun n:Nat=>Value.int .i64 (n:Int)) m1 ((add cV (tr (ks.getD s []) x)).zipIdx)]++(bl 3 qs++O3))) (by rw[show dl (ints ys) x [(vN (ix (tr (ks.getD s []) x) (add cV (tr (ks.getD s []) x))))]=ints (ys.set x ((ix (tr (ks.getD s []) x) (add cV (tr (ks.getD s []) x)):Nat):Int))from by simp[dl]];exact a_ (List.Sublist.refl _)) ?_
   refine ae (ai (ad (aO 2 fV F F F F) (ad (a8 (oB fV F (mG 3 F)) (v':=vI ((add cV (tr (ks.getD s []) x)).length:Int)) (by rw[List.length_zipIdx])) (ah F (ad (fw F F) (ae (aw F (fun hc=>?_) (fun hc=>?_))))))))
   ·exact absurd hc (by have:=hg _ XO;omega)
   have xl: ¬(add cV (tr (ks.getD s []) x)).length>B:=by omega
   refine aq (aH (ad (ey F F (by omega)) (ah F (ae ?_))))
   have xa: ∀y,y<x→tr (ks.getD s []) y∈cV:=fun y hy=>by rw[l7,dj];exact .inr (List.mem_map_of_mem (List.mem_range.2 hy))
   refine⟨x+1,by omega,add cV (tr (ks.getD s []) x),ys.set x ((ix (tr (ks.getD s []) x) (add cV (tr (ks.getD s []) x)):Nat):Int),O3,F,by omega,by simp[yN],XO,Zn,by rw[fF,←l7],fun i hi=>?_,(.of F)⟩
   by_cases e:i=x
   ·subst e;rw[List.getElem?_set_self (by omega)]
   ·rw[List.getElem?_set_ne (fun h=>e h.symm),wS i (by omega),fM (gD _ _) (xa i (by omega))]
  have AB: ¬x<L:=by omega
  refine bn ?_
  refine aH (ah F (ah F (aj F (bN (v:=(.slice (aD b3) L L)) dB bP F F F (fun b4=>?_)))))
  refine aj F (bX 2 dB dB bP F F F F (by simp[wO]) (by decide) (Src.row (j:=0) F (by simp)) (by simp[dD]) (by omega) (by decide) (by decide) (fun b5 c6=>?_))
  refine TO.qa F (ae ?_)
  refine cu (O':=[ak b5 c6 56 1 (bO (qs++[⟨(aD b3),L,ys⟩])),oI b2 160 [(.map (some m1))],df str (fun n:Nat=>Value.int .i64 (n:Int)) m1 cV.zipIdx]++(bl 3 (qs++[⟨(aD b3),L,ys⟩])++O2)) (by
   rw[show bO (qs++[⟨(aD b3),L,ys⟩])=(bO qs)++[(.slice (aD b3) L L)] by simp[Rec.val,yN]]
   exact Sub.ri [ak (aD b4) 1 56 1 [(.slice (aD b3) L L)]] (by intro a;simp only[List.set_cons_zero,List.set_cons_succ,bl,List.map_append,List.map_cons,List.map_nil,Rec.lZ,gA,gX,ml,vI,nS,aD,List.cons_append,List.nil_append,List.append_assoc,List.append_nil]<;>omega)) ?_
  refine aH (ah F (ad (ey F F (by omega)) (TO.qa F (ae ?_))))
  have B6:x=L:=by omega
  have xa: ∀y,y<L→tr (ks.getD s []) y∈cV:=fun y hy=>by rw[l7,dj];exact .inr (List.mem_map_of_mem (List.mem_range.2 (by omega)))
  have Lr:ys=iM tr L cV s:=by
   apply List.ext_getElem?
   intro i
   by_cases hi:i<L
   ·rw[wS i (by omega)];simp only[iM,mP];simp[hi]
   ·rw[List.getElem?_eq_none (by omega),List.getElem?_eq_none (by simp[iM];omega)]
  have KQ:nM tr L cV (s+1) (nums (qs++[⟨(aD b3),L,ys⟩])):=by
   have:=hE.snoc og qf Lr (by rw[mP];exact xa)
   simpa[nums]using this
  have XP: ∀i,i<s+1→i<(uo tr L start i).length:=fun i hi=>by
   by_cases e:i=s
   ·subst e;rw[nq];exact qf
   ·exact kT i (by omega)
  exact⟨s+1,by omega,cV,qs++[⟨(aD b3),L,ys⟩],b5,c6,O2,F,by rw[uo,nq,l7,B6],VV,VR,KQ,XP,(.of F)⟩
 have vp: ¬s<ks.length:=by omega
 refine bn ?_
 refine ai (ah F (ad (aO 1 fV F F F F) (ad (a8 (oB fV F (mG 2 F)) (v':=vI (ks.length:Int)) (by rw[List.length_zipIdx])) (ah F (ad (ar (zQ F F) (decide_eq_true (by have:=hg _ hG;omega))) (TO.qa F (TO.qa F (ae (az (ao ?_))))))))))
 refine ct (.slice ob s oc) (.bool true) Tryz.results86 F F ?_
 have hN:ks.length=s:=by have:=hE.le;omega
 exact⟨_,(ez [0] [ak ob oc 56 1 (bO qs),oI b2 160 [(.map (some m1))],df str (fun n:Nat=>Value.int .i64 (n:Int)) m1 ks.zipIdx] (bl 3 qs++O1) F F),ob,oc,qs,s,O1,F,F,by rw[nq];exact hJ,by rw[nq];exact hG,by rw[nq];exact hN,by rw[nq];exact hE,kT⟩
theorem Ve (base:World) [cG Tryz.prog base] (d:bY) (nb fb:Option Addr) (nc fc:Nat) (vs:List Value) (h:eA base d nb vs fb) (hv:Valid d) (hn:d.next.length<10000) (b1 b2 b3:Nat) (os:List Nat) (sn:List Bool) (ob sb:Option Addr) (oc sc Kc s x:Nat) (hs:s<os.length) (hx:x<2^d.vars.toNat) (F8: ∀o∈os,o<d.next.length) (jT:os.Nodup) (Ha:sn.length=d.next.length) (nL: ∀t,t<d.next.length→sn[t]? =some (decide (t∈os))):
  bw Tryz.prog base 84 ([vI (s:Int),.int .u8 (x:Int)]++[.pointer (aD b1),.pointer (aD b2),.pointer (aD b3)])
   [oI b1 25 [(vI d.vars),(vI d.start),(.slice nb d.next.length nc),(.slice fb d.aA.length fc)],oI b2 56 [(.slice ob os.length oc)],ak ob oc 3 1 (aQ os),oI b3 23 [(.slice sb d.next.length sc)],ak sb Kc 4 1 (aU sn)]
   (fun v O'=>v=str (Lib.decDigits (dJ d os[s] x))∧ ∃VW VX Vf,Vf.length=d.next.length∧(∀t,t<d.next.length→Vf[t]? =some (decide (t∈add os (dJ d os[s] x))))∧O'=[oI b1 25 [(vI d.vars),(vI d.start),(.slice nb d.next.length nc),(.slice fb d.aA.length fc)],oI b2 56 [(.slice VW ((add os (dJ d os[s] x)).length) VX)],ak VW VX 3 1 (aQ (add os (dJ d os[s] x))),oI b3 23 [(.slice sb d.next.length sc)],ak sb Kc 4 1 (aU Vf)]):=by
 refine av func84 F ntmps84 F ?_
 obtain⟨o,Kb⟩: ∃o,os[s]=o:=⟨_,F⟩
 have XQ:os[s]? =some o:=by rw[List.getElem?_eq_getElem hs,Kb]
 have ho:o<d.next.length:=Kb▸F8 _ (List.getElem_mem hs)
 obtain⟨t,ht⟩: ∃t,dJ d o x=t:=⟨_,F⟩
 obtain⟨VY,_,XR,Zo⟩:=hv.fB ho hx
 rw[ht]at VY Zo
 rw[Kb,ht]
 have ut:=h.rows.1
 have hw:=hv.width
 obtain⟨vb,vc,g1,s1⟩:=h.rows.get ho
 have W5:(ints d.next[o])[x]? =some (vN t):=by rw[d_ XR,Zo]
 have TS:=dR jT F8
 have pX:=nL t VY
 have H0:t<sn.length:=by omega
 refine ai (TO.qa F (ae (ax ?_)))
 refine dO [(0,0),(1,0),(2,0),(3,0),(4,0),(5,0),(6,0),(7,0),(8,0),(9,0),(10,0),(11,0)] ?_
 refine am F (aJ cy F cU F F) (am F (aO 0 dB F F F F) (am F (aO 1 bT F F F F) (am F (aF F) ?_)))
 refine am F (cq (i:=s) bT aM F F (cw (mG 2 F)) hs (by rw[List.length_map];exact hs)) (am F (bS dh F F (cw (mG 2 F)) (show(aQ os)[s]? =some (vN o) by rw[List.getElem?_map,XQ];rfl)) (am F (cq (i:=o) dB bP F F (aB h.outer) ho) (am F (bS bT F F (aB h.outer) g1) ?_)))
 refine am F (aF F) (am F (cq (i:=x) bT aM F F (aB s1) XR (by rw[List.length_map];exact XR)) (am F (bS dh F F (aB s1) W5) (am F (cD F) ?_)))
 refine bu ?_
 refine ax (ai ?_)
 refine ad (aO 3 dF F F F F) (ah F (ad (cq (i:=t) dF dc F F (cw (mG 4 F)) VY (by rw[List.length_map];exact H0)) (ad (bS oe F F (cw (mG 4 F)) (show(aU sn)[t]? =some (.bool (decide (t∈os))) by rw[List.getElem?_map,pX];rfl)) ?_)))
 refine ad (f_ F) (ae (aw (p:=t∉os) (congrArg Value.bool (by simp)) (fun hc=>?_) (fun hc=>?_)))
 ·let gn:Lx.Item:=oI b1 25 [(vI d.vars),(vI d.start),(.slice nb d.next.length nc),(.slice fb d.aA.length fc)]
  refine u0 [gn,oI b3 23 [(.slice sb d.next.length sc)],ak sb Kc 4 1 (aU sn)] [oI b2 56 [(.slice ob os.length oc)]] [(0,0),(1,0),(2,3),(3,0),(4,1),(5,1),(6,4),(7,0),(8,2)] mixed (by kernel_rfl) (au [0,2,2] F) (au [1] F) (fun _ _ _ _ h=>h) ?_
  refine am F (aO 1 dF F F F F) (am F (aF F) ?_)
  refine zW F (aO 0 bT F F F F) ?_
  refine am F (aF F) ?_
  refine qu F F (bN (v:=vN t) bT aM F F F (fun z1=>⟨au [1,3,3] F,au [2] F,?_⟩))
  refine qu F F (bX 3 bT bT aM F F F F (by simp) (by decide) (Src.row (j:=0) F (by simp)) (by simp[dD]) (by omega) (by decide) (by decide) (fun z2 vK=>⟨au [1,3,3] F,au [2] F,?_⟩))
  refine Cs F F (bj (vs:=[(.slice z2 (os.length+1) vK)]) 2 bP F F F F ⟨au [1,3,3] F,?_⟩)
  refine am F (cq (i:=t) dF dc F F (cw (mG 2 F)) VY (by rw[List.length_map];exact H0)) ?_
  refine bq F F (jW (j:=t) (v:=.bool true) (vs:=[(.bool true)]) (cs:=aU sn) 5 dc F F F F F (by simp) F (by first|(simp;omega)|(simp_all;omega)) ?_)
  let dS:List Lx.Item:=[ak (aD z1) 1 3 1 [vN t],oI b1 25 [(vI d.vars),(vI d.start),(.slice nb d.next.length nc),(.slice fb d.aA.length fc)],oI b2 56 [(.slice z2 (os.length+1) vK)],ak z2 vK 3 1 ((aQ os)++[vN t]),oI b3 23 [(.slice sb d.next.length sc)],ak sb Kc 4 1 (aU (sn.set t true))]
  refine de (O':=dS) (by rw[show dl (aU sn) t [(.bool true)]=aU (sn.set t true)from by simp[dl]];exact a_ (List.Sublist.refl _)) ?_
  refine bu ?_
  refine ai (ah F ?_)
  have vC:=fun(w1:World) (hI:Inv base dS w1)=>(haveI:=dp hI;JT w1 t (by omega))
  refine aj F (aI I2 (aE vC) F ?_)
  clear vC
  rintro v O' ⟨N,rfl,rfl,rfl⟩
  refine TO.qa F (ae (az (ao ?_)))
  refine aG (str (Lib.decDigits t)) Tryz.results84 F ?_
  have ha:add os t=os++[t]:=if_neg hc
  refine⟨[gn,oI b2 56 [(.slice z2 (os.length+1) vK)],ak z2 vK 3 1 ((aQ os)++[vN t]),oI b3 23 [(.slice sb d.next.length sc)],ak sb Kc 4 1 (aU (sn.set t true))],(au [1,1,1,1,1] F),F,z2,vK,sn.set t true,by simp[Ha],fun t2 Q_=>?_,?_⟩
  ·rw[ha]
   by_cases e:t2=t
   ·subst e;rw[List.getElem?_set_self H0];simp
   ·rw[List.getElem?_set_ne (fun h=>e h.symm),nL t2 Q_];simp[e]
  ·rw[ha,List.length_append,show aQ (os++[t])=aQ os++[vN t]from List.map_append];rfl
 refine aq (ai (ah F ?_))
 let gz:List Lx.Item:=[oI b1 25 [(vI d.vars),(vI d.start),(.slice nb d.next.length nc),(.slice fb d.aA.length fc)],oI b2 56 [(.slice ob os.length oc)],ak ob oc 3 1 (aQ os),oI b3 23 [(.slice sb d.next.length sc)],ak sb Kc 4 1 (aU sn)]
 have vC:=fun(w1:World) (hI:Inv base gz w1)=>(haveI:=dp hI;JT w1 t (by omega))
 refine aj F (aI I2 (aE vC) F ?_)
 clear vC
 rintro v O' ⟨N,rfl,rfl,rfl⟩
 refine TO.qa F (ae (az (ao ?_)))
 refine aG (str (Lib.decDigits t)) Tryz.results84 F ?_
 have ha:add os t=os:=if_pos (Classical.not_not.1 hc)
 refine⟨gz,(au [0,0,0,0,0] F),F,ob,oc,sn,Ha,fun t2 Q_=>?_,?_⟩
 ·rw[ha];exact nL t2 Q_
 ·rw[ha]
def QV (d:bY) (nb fb:Option Addr) (nc fc b1 bB bC bD:Nat) (ks:List (List UInt8)) (O:List Lx.Item):Prop:=
 ∃(os:List Nat) (sn:List Bool) (ob:Option Addr) (oc:Nat),ks=os.map Lib.decDigits∧O=[da b1 (.cells (List.toArray [(vI d.vars),(vI d.start),(.slice nb d.next.length nc),(.slice fb d.aA.length fc)]) 25 (0,0)),da bC (.cells (List.toArray [(.slice ob os.length oc)]) 56 (0,0)),ak ob oc 3 1 (aQ os),da bD (.cells (List.toArray [(.slice (aD bB) d.next.length d.next.length)]) 23 (0,0)),ak (aD bB) d.next.length 4 1 (aU sn)]∧os.Nodup∧(∀o∈os,o<d.next.length)∧sn.length=d.next.length∧(∀t,t<d.next.length→sn[t]? =some (decide (t∈os)))
set_option maxRecDepth 20000 in
theorem Vg (base:World) [cG Tryz.prog base] (d:bY) (nb fb:Option Addr) (nc fc:Nat) (vs:List Value) (h:eA base d nb vs fb) (hv:Valid d) (hn:d.next.length<10000) (b1 bB bC bD:Nat) (ks:List (List UInt8)) (s x:Nat) (O:List Lx.Item) (hs:s<ks.length) (hx:x<2^d.vars.toNat) (hJ:QV d nb fb nc fc b1 bB bC bD ks O):
  dW Tryz.prog base (.func (.func 84) #[] #[.pointer (aD b1),.pointer (aD bC),.pointer (aD bD)]) [vI (s:Int),.int .u8 (x:Int)] O
   (fun v O'=>v=str (Ci d (ks.getD s []) x)∧(add ks (Ci d (ks.getD s []) x)).length≤d.next.length∧QV d nb fb nc fc b1 bB bC bD (add ks (Ci d (ks.getD s []) x)) O'):=by
 obtain⟨os,sn,ob,oc,rfl,rfl,jT,F8,Ha,nL⟩:=hJ
 have Gl:s<os.length:=by simpa using hs
 have e:(os.map Lib.decDigits).getD s []=Lib.decDigits os[s]:=by simp[Gl]
 have e2:Ci d ((os.map Lib.decDigits).getD s []) x=Lib.decDigits (dJ d os[s] x):=by rw[e,Ci,th]
 have hT:=(hv.fB (F8 _ (List.getElem_mem Gl)) hx).1
 have Vh: ∀o∈add os (dJ d os[s] x),o<d.next.length:=fun o ho=>by
  rcases sk.1 ho with ho|ho
  ·exact F8 o ho
  ·rw[ho];exact hT
 refine dW.mono (b_ (first:=[]) (fK:=[.pointer (aD b1),.pointer (aD bC),.pointer (aD bD)]) UQ (Ve base d nb fb nc fc vs h hv hn b1 bC bD os sn ob (aD bB) oc d.next.length d.next.length s x Gl hx F8 jT Ha nL)) ?_
 rintro v O' ⟨rfl,VW,VX,Vf,h1,h2,rfl⟩
 rw[e2,←EY nD]
 refine⟨F,?_,add os (dJ d os[s] x),Vf,VW,VX,F,F,lr jT,Vh,h1,h2⟩
 rw[List.length_map];exact dR (lr jT) Vh
end Go.Proofs.YtgdbfideeeegmaaGreatDoor

namespace Go.Proofs.YtgdbfideeeegmaaGreatDoor
open Go.Lx Go.RowKit _root_.Go.Proofs.Tryz
theorem Mj (w:World) [cG Tryz.prog w] (d:bY) (nb fb:Option Addr) (nc fc:Nat) (vs:List Value) (h:eA w d nb vs fb) (hv:Valid d) (hn:d.next.length<10000):
  bs Tryz.prog 52 [.agg (cB d nb nc fb fc).toArray] w fun v N=> ∃oF oG kI kJ qs,v=.tuple #[.agg (cB (cO d) oF oG kI kJ).toArray,vI 0]∧N=[ak oF oG 56 1 (bO qs),ak kI kJ 4 1 (aU (cO d).aA)]++bl 3 qs∧nums qs=(cO d).next:=by
 refine av func52 F ntmps52 F ?_
 have he:=dr.2 hv
 have hb:d.next.length<9223372036854775807:=by omega
 have jy: ∀r∈d.next,r.length<9223372036854775807:=hv.uQ
 have j6:d.aA.length<9223372036854775807:=by have:=hv.fin;omega
 have GZ:=hv.n0
 have sB:=hv.s0
 have J1:=hv.s1
 have nL:d.start.toNat<d.next.length:=by omega
 refine ai (aj F (cL (cs:=[(vI d.vars),(vI d.start),(.slice nb d.next.length nc),(.slice fb d.aA.length fc)]) F F (fun z1=>?_)))
 refine aj F (aR aX F (fun z2=>?_))
 refine TO.qa F (ae (ax (ai (ad (cN 1 cy F aX F F F) ?_))))
 have ly:=fun(w1:World) (hI:Inv w [oI z2 25 [(vI 0),(vI 0),nS,nS],oI z1 25 [(vI d.vars),(vI d.start),(.slice nb d.next.length nc),(.slice fb d.aA.length fc)]] w1)=>(haveI:=dp hI;mf w1 d nb fb nc fc vs (hI.u4 h) hb jy j6)
 refine aj F (aI Ex (aE ly) F ?_)
 clear ly
 rintro v O' ⟨N,rfl,rfl,rfl⟩
 rw[he]
 refine TO.qa F (ae (ai (ah F (ad (cS F F) (ae (aL F (aq ?_)))))))
 refine fg (fun ρ O=> ∃(bA bB bC bD:Nat),O=[oI bC 56 [(.slice (aD bA) 1 1)],oI bD 23 [(.slice (aD bB) d.next.length d.next.length)],ak (aD bA) 1 3 1 [(vI d.start)],ak (aD bB) d.next.length 4 1 (List.replicate d.next.length (.bool false)),oI z2 25 [(vI 0),(vI 0),nS,nS],oI z1 25 [(vI d.vars),(vI d.start),(.slice nb d.next.length nc),(.slice fb d.aA.length fc)]]∧bZ [(0,(.agg #[(vI d.vars),(vI d.start),(.slice nb d.next.length nc),(.slice fb d.aA.length fc)])),(1,(.pointer (aD z1))),(2,(.pointer (aD z2))),(3,vI 0),(4,vI ((0:Nat):Int)),(5,(.pointer (aD bC))),(6,(.pointer (aD bD)))] ρ) ?_ ?_
 ·refine oy [oI z1 25 [(vI d.vars),(vI d.start),(.slice nb d.next.length nc),(.slice fb d.aA.length fc)]] 11 mixed F (au [1] F) (fun _ _ _ _ h=>h) ?_
  refine cA 0 F (by kernel_rfl) (aJ cy F aM F F) ?_
  refine cA 1 F (by kernel_rfl) (aO 0 dh F F F F) ?_
  refine cA 3 F (by kernel_rfl) (aJ cy F cU F F) ?_
  refine cA 4 F (by kernel_rfl) (aO 0 dB F F F F) ?_
  refine cA 5 F (by kernel_rfl) (bL dB F) ?_
  refine aN [2,6,7,8] (by kernel_rfl) F ⟨⟨_,F,F,bN (v:=(vI d.start)) bT aM F F F (fun bA=>⟨au [2] F,?_⟩)⟩,⟨_,F,F,bV (m:=d.next.length) dF dc F F (by omega) (by omega) (fun bB=>⟨au [2] F,?_⟩)⟩,⟨_,F,F,aR bP F (fun bC=>⟨au [2] F,?_⟩)⟩,⟨_,F,F,aR ce F (fun bD=>⟨au [2] F,?_⟩)⟩,trivial⟩
  ·refine aN [6,7,8] (by kernel_rfl) F ⟨⟨_,F,F,bV (m:=d.next.length) dF dc F F (by omega) (by omega) (fun bB=>⟨au [3] F,?_⟩)⟩,⟨_,F,F,aR bP F (fun bC=>⟨au [3] F,?_⟩)⟩,⟨_,F,F,aR ce F (fun bD=>⟨au [3] F,?_⟩)⟩,trivial⟩
   ·refine aN [7,8] (by kernel_rfl) F ⟨⟨_,F,F,aR bP F (fun bC=>⟨au [4] F,?_⟩)⟩,⟨_,F,F,aR ce F (fun bD=>⟨au [4] F,?_⟩)⟩,trivial⟩
    ·refine aN [8] (by kernel_rfl) F ⟨⟨_,F,F,aR ce F (fun bD=>⟨au [5] F,?_⟩)⟩,trivial⟩
     refine aN [9] (by kernel_rfl) F ⟨⟨_,F,F,bj (vs:=[(.slice (aD bA) 1 1)]) 1 bP F F F F ⟨au [5] F,?_⟩⟩,trivial⟩
     refine aN [10] (by kernel_rfl) F ⟨⟨_,F,F,bj (vs:=[(.slice (aD bB) d.next.length d.next.length)]) 0 ce F F F F ⟨au [5] F,?_⟩⟩,trivial⟩
     exact cH (by kernel_rfl) ⟨bA,bB,bC,bD,F,(.of F)⟩ (au [1,0,1,0,0,0] F)
    refine aN [7] (by kernel_rfl) F ⟨⟨_,F,F,aR bP F (fun bC=>⟨au [5] F,?_⟩)⟩,trivial⟩
    refine aN [9] (by kernel_rfl) F ⟨⟨_,F,F,bj (vs:=[(.slice (aD bA) 1 1)]) 0 bP F F F F ⟨au [5] F,?_⟩⟩,trivial⟩
    refine aN [10] (by kernel_rfl) F ⟨⟨_,F,F,bj (vs:=[(.slice (aD bB) d.next.length d.next.length)]) 1 ce F F F F ⟨au [5] F,?_⟩⟩,trivial⟩
    exact cH (by kernel_rfl) ⟨bA,bB,bC,bD,F,(.of F)⟩ (au [0,0,1,0,0,0] F)
   ·refine aN [6,8] (by kernel_rfl) F ⟨⟨_,F,F,bV (m:=d.next.length) dF dc F F (by omega) (by omega) (fun bB=>⟨au [4] F,?_⟩)⟩,⟨_,F,F,aR ce F (fun bD=>⟨au [4] F,?_⟩)⟩,trivial⟩
    ·refine aN [8] (by kernel_rfl) F ⟨⟨_,F,F,aR ce F (fun bD=>⟨au [5] F,?_⟩)⟩,trivial⟩
     refine aN [9] (by kernel_rfl) F ⟨⟨_,F,F,bj (vs:=[(.slice (aD bA) 1 1)]) 2 bP F F F F ⟨au [5] F,?_⟩⟩,trivial⟩
     refine aN [10] (by kernel_rfl) F ⟨⟨_,F,F,bj (vs:=[(.slice (aD bB) d.next.length d.next.length)]) 0 ce F F F F ⟨au [5] F,?_⟩⟩,trivial⟩
     exact cH (by kernel_rfl) ⟨bA,bB,bC,bD,F,(.of F)⟩ (au [2,0,1,0,0,0] F)
    refine aN [6,9] (by kernel_rfl) F ⟨⟨_,F,F,bV (m:=d.next.length) dF dc F F (by omega) (by omega) (fun bB=>⟨au [5] F,?_⟩)⟩,⟨_,F,F,bj (vs:=[(.slice (aD bA) 1 1)]) 1 bP F F F F ⟨au [4] F,?_⟩⟩,trivial⟩
    ·refine aN [9] (by kernel_rfl) F ⟨⟨_,F,F,bj (vs:=[(.slice (aD bA) 1 1)]) 2 bP F F F F ⟨au [5] F,?_⟩⟩,trivial⟩
     refine aN [10] (by kernel_rfl) F ⟨⟨_,F,F,bj (vs:=[(.slice (aD bB) d.next.length d.next.length)]) 1 ce F F F F ⟨au [5] F,?_⟩⟩,trivial⟩
     exact cH (by kernel_rfl) ⟨bA,bB,bC,bD,F,(.of F)⟩ (au [2,1,1,0,0,0] F)
    refine aN [6] (by kernel_rfl) F ⟨⟨_,F,F,bV (m:=d.next.length) dF dc F F (by omega) (by omega) (fun bB=>⟨au [5] F,?_⟩)⟩,trivial⟩
    refine aN [10] (by kernel_rfl) F ⟨⟨_,F,F,bj (vs:=[(.slice (aD bB) d.next.length d.next.length)]) 1 ce F F F F ⟨au [5] F,?_⟩⟩,trivial⟩
    exact cH (by kernel_rfl) ⟨bA,bB,bC,bD,F,(.of F)⟩ (au [2,1,1,0,0,0] F)
   refine aN [6,7] (by kernel_rfl) F ⟨⟨_,F,F,bV (m:=d.next.length) dF dc F F (by omega) (by omega) (fun bB=>⟨au [4] F,?_⟩)⟩,⟨_,F,F,aR bP F (fun bC=>⟨au [4] F,?_⟩)⟩,trivial⟩
   ·refine aN [7] (by kernel_rfl) F ⟨⟨_,F,F,aR bP F (fun bC=>⟨au [5] F,?_⟩)⟩,trivial⟩
    refine aN [9] (by kernel_rfl) F ⟨⟨_,F,F,bj (vs:=[(.slice (aD bA) 1 1)]) 0 bP F F F F ⟨au [5] F,?_⟩⟩,trivial⟩
    refine aN [10] (by kernel_rfl) F ⟨⟨_,F,F,bj (vs:=[(.slice (aD bB) d.next.length d.next.length)]) 2 ce F F F F ⟨au [5] F,?_⟩⟩,trivial⟩
    exact cH (by kernel_rfl) ⟨bA,bB,bC,bD,F,(.of F)⟩ (au [0,1,1,0,0,0] F)
   refine aN [6,9] (by kernel_rfl) F ⟨⟨_,F,F,bV (m:=d.next.length) dF dc F F (by omega) (by omega) (fun bB=>⟨au [5] F,?_⟩)⟩,⟨_,F,F,bj (vs:=[(.slice (aD bA) 1 1)]) 0 bP F F F F ⟨au [4] F,?_⟩⟩,trivial⟩
   ·refine aN [9] (by kernel_rfl) F ⟨⟨_,F,F,bj (vs:=[(.slice (aD bA) 1 1)]) 1 bP F F F F ⟨au [5] F,?_⟩⟩,trivial⟩
    refine aN [10] (by kernel_rfl) F ⟨⟨_,F,F,bj (vs:=[(.slice (aD bB) d.next.length d.next.length)]) 2 ce F F F F ⟨au [5] F,?_⟩⟩,trivial⟩
    exact cH (by kernel_rfl) ⟨bA,bB,bC,bD,F,(.of F)⟩ (au [1,1,1,0,0,0] F)
   refine aN [6] (by kernel_rfl) F ⟨⟨_,F,F,bV (m:=d.next.length) dF dc F F (by omega) (by omega) (fun bB=>⟨au [5] F,?_⟩)⟩,trivial⟩
   refine aN [10] (by kernel_rfl) F ⟨⟨_,F,F,bj (vs:=[(.slice (aD bB) d.next.length d.next.length)]) 2 ce F F F F ⟨au [5] F,?_⟩⟩,trivial⟩
   exact cH (by kernel_rfl) ⟨bA,bB,bC,bD,F,(.of F)⟩ (au [1,1,1,0,0,0] F)
  ·refine aN [2,7,8] (by kernel_rfl) F ⟨⟨_,F,F,bN (v:=(vI d.start)) bT aM F F F (fun bA=>⟨au [3] F,?_⟩)⟩,⟨_,F,F,aR bP F (fun bC=>⟨au [3] F,?_⟩)⟩,⟨_,F,F,aR ce F (fun bD=>⟨au [3] F,?_⟩)⟩,trivial⟩
   ·refine aN [7,8] (by kernel_rfl) F ⟨⟨_,F,F,aR bP F (fun bC=>⟨au [4] F,?_⟩)⟩,⟨_,F,F,aR ce F (fun bD=>⟨au [4] F,?_⟩)⟩,trivial⟩
    ·refine aN [8] (by kernel_rfl) F ⟨⟨_,F,F,aR ce F (fun bD=>⟨au [5] F,?_⟩)⟩,trivial⟩
     refine aN [9] (by kernel_rfl) F ⟨⟨_,F,F,bj (vs:=[(.slice (aD bA) 1 1)]) 1 bP F F F F ⟨au [5] F,?_⟩⟩,trivial⟩
     refine aN [10] (by kernel_rfl) F ⟨⟨_,F,F,bj (vs:=[(.slice (aD bB) d.next.length d.next.length)]) 0 ce F F F F ⟨au [5] F,?_⟩⟩,trivial⟩
     exact cH (by kernel_rfl) ⟨bA,bB,bC,bD,F,(.of F)⟩ (au [1,0,0,0,0,0] F)
    refine aN [7] (by kernel_rfl) F ⟨⟨_,F,F,aR bP F (fun bC=>⟨au [5] F,?_⟩)⟩,trivial⟩
    refine aN [9] (by kernel_rfl) F ⟨⟨_,F,F,bj (vs:=[(.slice (aD bA) 1 1)]) 0 bP F F F F ⟨au [5] F,?_⟩⟩,trivial⟩
    refine aN [10] (by kernel_rfl) F ⟨⟨_,F,F,bj (vs:=[(.slice (aD bB) d.next.length d.next.length)]) 1 ce F F F F ⟨au [5] F,?_⟩⟩,trivial⟩
    exact cH (by kernel_rfl) ⟨bA,bB,bC,bD,F,(.of F)⟩ (au [0,0,0,0,0,0] F)
   ·refine aN [2,8] (by kernel_rfl) F ⟨⟨_,F,F,bN (v:=(vI d.start)) bT aM F F F (fun bA=>⟨au [4] F,?_⟩)⟩,⟨_,F,F,aR ce F (fun bD=>⟨au [4] F,?_⟩)⟩,trivial⟩
    ·refine aN [8] (by kernel_rfl) F ⟨⟨_,F,F,aR ce F (fun bD=>⟨au [5] F,?_⟩)⟩,trivial⟩
     refine aN [9] (by kernel_rfl) F ⟨⟨_,F,F,bj (vs:=[(.slice (aD bA) 1 1)]) 2 bP F F F F ⟨au [5] F,?_⟩⟩,trivial⟩
     refine aN [10] (by kernel_rfl) F ⟨⟨_,F,F,bj (vs:=[(.slice (aD bB) d.next.length d.next.length)]) 0 ce F F F F ⟨au [5] F,?_⟩⟩,trivial⟩
     exact cH (by kernel_rfl) ⟨bA,bB,bC,bD,F,(.of F)⟩ (au [2,0,0,0,0,0] F)
    refine aN [2] (by kernel_rfl) F ⟨⟨_,F,F,bN (v:=(vI d.start)) bT aM F F F (fun bA=>⟨au [5] F,?_⟩)⟩,trivial⟩
    refine aN [9] (by kernel_rfl) F ⟨⟨_,F,F,bj (vs:=[(.slice (aD bA) 1 1)]) 2 bP F F F F ⟨au [5] F,?_⟩⟩,trivial⟩
    refine aN [10] (by kernel_rfl) F ⟨⟨_,F,F,bj (vs:=[(.slice (aD bB) d.next.length d.next.length)]) 1 ce F F F F ⟨au [5] F,?_⟩⟩,trivial⟩
    exact cH (by kernel_rfl) ⟨bA,bB,bC,bD,F,(.of F)⟩ (au [2,1,0,0,0,0] F)
   refine aN [2,7] (by kernel_rfl) F ⟨⟨_,F,F,bN (v:=(vI d.start)) bT aM F F F (fun bA=>⟨au [4] F,?_⟩)⟩,⟨_,F,F,aR bP F (fun bC=>⟨au [4] F,?_⟩)⟩,trivial⟩
   ·refine aN [7] (by kernel_rfl) F ⟨⟨_,F,F,aR bP F (fun bC=>⟨au [5] F,?_⟩)⟩,trivial⟩
    refine aN [9] (by kernel_rfl) F ⟨⟨_,F,F,bj (vs:=[(.slice (aD bA) 1 1)]) 0 bP F F F F ⟨au [5] F,?_⟩⟩,trivial⟩
    refine aN [10] (by kernel_rfl) F ⟨⟨_,F,F,bj (vs:=[(.slice (aD bB) d.next.length d.next.length)]) 2 ce F F F F ⟨au [5] F,?_⟩⟩,trivial⟩
    exact cH (by kernel_rfl) ⟨bA,bB,bC,bD,F,(.of F)⟩ (au [0,1,0,0,0,0] F)
   refine aN [2] (by kernel_rfl) F ⟨⟨_,F,F,bN (v:=(vI d.start)) bT aM F F F (fun bA=>⟨au [5] F,?_⟩)⟩,trivial⟩
   refine aN [9] (by kernel_rfl) F ⟨⟨_,F,F,bj (vs:=[(.slice (aD bA) 1 1)]) 1 bP F F F F ⟨au [5] F,?_⟩⟩,trivial⟩
   refine aN [10] (by kernel_rfl) F ⟨⟨_,F,F,bj (vs:=[(.slice (aD bB) d.next.length d.next.length)]) 2 ce F F F F ⟨au [5] F,?_⟩⟩,trivial⟩
   exact cH (by kernel_rfl) ⟨bA,bB,bC,bD,F,(.of F)⟩ (au [1,1,0,0,0,0] F)
  ·refine aN [2,6,8] (by kernel_rfl) F ⟨⟨_,F,F,bN (v:=(vI d.start)) bT aM F F F (fun bA=>⟨au [3] F,?_⟩)⟩,⟨_,F,F,bV (m:=d.next.length) dF dc F F (by omega) (by omega) (fun bB=>⟨au [3] F,?_⟩)⟩,⟨_,F,F,aR ce F (fun bD=>⟨au [3] F,?_⟩)⟩,trivial⟩
   ·refine aN [6,8] (by kernel_rfl) F ⟨⟨_,F,F,bV (m:=d.next.length) dF dc F F (by omega) (by omega) (fun bB=>⟨au [4] F,?_⟩)⟩,⟨_,F,F,aR ce F (fun bD=>⟨au [4] F,?_⟩)⟩,trivial⟩
    ·refine aN [8] (by kernel_rfl) F ⟨⟨_,F,F,aR ce F (fun bD=>⟨au [5] F,?_⟩)⟩,trivial⟩
     refine aN [9] (by kernel_rfl) F ⟨⟨_,F,F,bj (vs:=[(.slice (aD bA) 1 1)]) 3 bP F F F F ⟨au [5] F,?_⟩⟩,trivial⟩
     refine aN [10] (by kernel_rfl) F ⟨⟨_,F,F,bj (vs:=[(.slice (aD bB) d.next.length d.next.length)]) 0 ce F F F F ⟨au [5] F,?_⟩⟩,trivial⟩
     exact cH (by kernel_rfl) ⟨bA,bB,bC,bD,F,(.of F)⟩ (au [3,0,1,0,0,0] F)
    refine aN [6,9] (by kernel_rfl) F ⟨⟨_,F,F,bV (m:=d.next.length) dF dc F F (by omega) (by omega) (fun bB=>⟨au [5] F,?_⟩)⟩,⟨_,F,F,bj (vs:=[(.slice (aD bA) 1 1)]) 2 bP F F F F ⟨au [4] F,?_⟩⟩,trivial⟩
    ·refine aN [9] (by kernel_rfl) F ⟨⟨_,F,F,bj (vs:=[(.slice (aD bA) 1 1)]) 3 bP F F F F ⟨au [5] F,?_⟩⟩,trivial⟩
     refine aN [10] (by kernel_rfl) F ⟨⟨_,F,F,bj (vs:=[(.slice (aD bB) d.next.length d.next.length)]) 1 ce F F F F ⟨au [5] F,?_⟩⟩,trivial⟩
     exact cH (by kernel_rfl) ⟨bA,bB,bC,bD,F,(.of F)⟩ (au [3,1,1,0,0,0] F)
    refine aN [6] (by kernel_rfl) F ⟨⟨_,F,F,bV (m:=d.next.length) dF dc F F (by omega) (by omega) (fun bB=>⟨au [5] F,?_⟩)⟩,trivial⟩
    refine aN [10] (by kernel_rfl) F ⟨⟨_,F,F,bj (vs:=[(.slice (aD bB) d.next.length d.next.length)]) 1 ce F F F F ⟨au [5] F,?_⟩⟩,trivial⟩
    exact cH (by kernel_rfl) ⟨bA,bB,bC,bD,F,(.of F)⟩ (au [3,1,1,0,0,0] F)
   ·refine aN [2,8] (by kernel_rfl) F ⟨⟨_,F,F,bN (v:=(vI d.start)) bT aM F F F (fun bA=>⟨au [4] F,?_⟩)⟩,⟨_,F,F,aR ce F (fun bD=>⟨au [4] F,?_⟩)⟩,trivial⟩
    ·refine aN [8] (by kernel_rfl) F ⟨⟨_,F,F,aR ce F (fun bD=>⟨au [5] F,?_⟩)⟩,trivial⟩
     refine aN [9] (by kernel_rfl) F ⟨⟨_,F,F,bj (vs:=[(.slice (aD bA) 1 1)]) 3 bP F F F F ⟨au [5] F,?_⟩⟩,trivial⟩
     refine aN [10] (by kernel_rfl) F ⟨⟨_,F,F,bj (vs:=[(.slice (aD bB) d.next.length d.next.length)]) 0 ce F F F F ⟨au [5] F,?_⟩⟩,trivial⟩
     exact cH (by kernel_rfl) ⟨bA,bB,bC,bD,F,(.of F)⟩ (au [3,0,0,0,0,0] F)
    refine aN [2] (by kernel_rfl) F ⟨⟨_,F,F,bN (v:=(vI d.start)) bT aM F F F (fun bA=>⟨au [5] F,?_⟩)⟩,trivial⟩
    refine aN [9] (by kernel_rfl) F ⟨⟨_,F,F,bj (vs:=[(.slice (aD bA) 1 1)]) 3 bP F F F F ⟨au [5] F,?_⟩⟩,trivial⟩
    refine aN [10] (by kernel_rfl) F ⟨⟨_,F,F,bj (vs:=[(.slice (aD bB) d.next.length d.next.length)]) 1 ce F F F F ⟨au [5] F,?_⟩⟩,trivial⟩
    exact cH (by kernel_rfl) ⟨bA,bB,bC,bD,F,(.of F)⟩ (au [3,1,0,0,0,0] F)
   refine aN [2,6] (by kernel_rfl) F ⟨⟨_,F,F,bN (v:=(vI d.start)) bT aM F F F (fun bA=>⟨au [4] F,?_⟩)⟩,⟨_,F,F,bV (m:=d.next.length) dF dc F F (by omega) (by omega) (fun bB=>⟨au [4] F,?_⟩)⟩,trivial⟩
   ·refine aN [6,9] (by kernel_rfl) F ⟨⟨_,F,F,bV (m:=d.next.length) dF dc F F (by omega) (by omega) (fun bB=>⟨au [5] F,?_⟩)⟩,⟨_,F,F,bj (vs:=[(.slice (aD bA) 1 1)]) 2 bP F F F F ⟨au [4] F,?_⟩⟩,trivial⟩
    ·refine aN [9] (by kernel_rfl) F ⟨⟨_,F,F,bj (vs:=[(.slice (aD bA) 1 1)]) 3 bP F F F F ⟨au [5] F,?_⟩⟩,trivial⟩
     refine aN [10] (by kernel_rfl) F ⟨⟨_,F,F,bj (vs:=[(.slice (aD bB) d.next.length d.next.length)]) 2 ce F F F F ⟨au [5] F,?_⟩⟩,trivial⟩
     exact cH (by kernel_rfl) ⟨bA,bB,bC,bD,F,(.of F)⟩ (au [3,2,1,0,0,0] F)
    refine aN [6] (by kernel_rfl) F ⟨⟨_,F,F,bV (m:=d.next.length) dF dc F F (by omega) (by omega) (fun bB=>⟨au [5] F,?_⟩)⟩,trivial⟩
    refine aN [10] (by kernel_rfl) F ⟨⟨_,F,F,bj (vs:=[(.slice (aD bB) d.next.length d.next.length)]) 2 ce F F F F ⟨au [5] F,?_⟩⟩,trivial⟩
    exact cH (by kernel_rfl) ⟨bA,bB,bC,bD,F,(.of F)⟩ (au [3,2,1,0,0,0] F)
   refine aN [2] (by kernel_rfl) F ⟨⟨_,F,F,bN (v:=(vI d.start)) bT aM F F F (fun bA=>⟨au [5] F,?_⟩)⟩,trivial⟩
   refine aN [9] (by kernel_rfl) F ⟨⟨_,F,F,bj (vs:=[(.slice (aD bA) 1 1)]) 3 bP F F F F ⟨au [5] F,?_⟩⟩,trivial⟩
   refine aN [10] (by kernel_rfl) F ⟨⟨_,F,F,bj (vs:=[(.slice (aD bB) d.next.length d.next.length)]) 2 ce F F F F ⟨au [5] F,?_⟩⟩,trivial⟩
   exact cH (by kernel_rfl) ⟨bA,bB,bC,bD,F,(.of F)⟩ (au [3,2,0,0,0,0] F)
  refine aN [2,6,7] (by kernel_rfl) F ⟨⟨_,F,F,bN (v:=(vI d.start)) bT aM F F F (fun bA=>⟨au [3] F,?_⟩)⟩,⟨_,F,F,bV (m:=d.next.length) dF dc F F (by omega) (by omega) (fun bB=>⟨au [3] F,?_⟩)⟩,⟨_,F,F,aR bP F (fun bC=>⟨au [3] F,?_⟩)⟩,trivial⟩
  ·refine aN [6,7] (by kernel_rfl) F ⟨⟨_,F,F,bV (m:=d.next.length) dF dc F F (by omega) (by omega) (fun bB=>⟨au [4] F,?_⟩)⟩,⟨_,F,F,aR bP F (fun bC=>⟨au [4] F,?_⟩)⟩,trivial⟩
   ·refine aN [7] (by kernel_rfl) F ⟨⟨_,F,F,aR bP F (fun bC=>⟨au [5] F,?_⟩)⟩,trivial⟩
    refine aN [9] (by kernel_rfl) F ⟨⟨_,F,F,bj (vs:=[(.slice (aD bA) 1 1)]) 0 bP F F F F ⟨au [5] F,?_⟩⟩,trivial⟩
    refine aN [10] (by kernel_rfl) F ⟨⟨_,F,F,bj (vs:=[(.slice (aD bB) d.next.length d.next.length)]) 3 ce F F F F ⟨au [5] F,?_⟩⟩,trivial⟩
    exact cH (by kernel_rfl) ⟨bA,bB,bC,bD,F,(.of F)⟩ (au [0,2,1,0,0,0] F)
   refine aN [6,9] (by kernel_rfl) F ⟨⟨_,F,F,bV (m:=d.next.length) dF dc F F (by omega) (by omega) (fun bB=>⟨au [5] F,?_⟩)⟩,⟨_,F,F,bj (vs:=[(.slice (aD bA) 1 1)]) 0 bP F F F F ⟨au [4] F,?_⟩⟩,trivial⟩
   ·refine aN [9] (by kernel_rfl) F ⟨⟨_,F,F,bj (vs:=[(.slice (aD bA) 1 1)]) 1 bP F F F F ⟨au [5] F,?_⟩⟩,trivial⟩
    refine aN [10] (by kernel_rfl) F ⟨⟨_,F,F,bj (vs:=[(.slice (aD bB) d.next.length d.next.length)]) 3 ce F F F F ⟨au [5] F,?_⟩⟩,trivial⟩
    exact cH (by kernel_rfl) ⟨bA,bB,bC,bD,F,(.of F)⟩ (au [1,2,1,0,0,0] F)
   refine aN [6] (by kernel_rfl) F ⟨⟨_,F,F,bV (m:=d.next.length) dF dc F F (by omega) (by omega) (fun bB=>⟨au [5] F,?_⟩)⟩,trivial⟩
   refine aN [10] (by kernel_rfl) F ⟨⟨_,F,F,bj (vs:=[(.slice (aD bB) d.next.length d.next.length)]) 3 ce F F F F ⟨au [5] F,?_⟩⟩,trivial⟩
   exact cH (by kernel_rfl) ⟨bA,bB,bC,bD,F,(.of F)⟩ (au [1,2,1,0,0,0] F)
  ·refine aN [2,7] (by kernel_rfl) F ⟨⟨_,F,F,bN (v:=(vI d.start)) bT aM F F F (fun bA=>⟨au [4] F,?_⟩)⟩,⟨_,F,F,aR bP F (fun bC=>⟨au [4] F,?_⟩)⟩,trivial⟩
   ·refine aN [7] (by kernel_rfl) F ⟨⟨_,F,F,aR bP F (fun bC=>⟨au [5] F,?_⟩)⟩,trivial⟩
    refine aN [9] (by kernel_rfl) F ⟨⟨_,F,F,bj (vs:=[(.slice (aD bA) 1 1)]) 0 bP F F F F ⟨au [5] F,?_⟩⟩,trivial⟩
    refine aN [10] (by kernel_rfl) F ⟨⟨_,F,F,bj (vs:=[(.slice (aD bB) d.next.length d.next.length)]) 3 ce F F F F ⟨au [5] F,?_⟩⟩,trivial⟩
    exact cH (by kernel_rfl) ⟨bA,bB,bC,bD,F,(.of F)⟩ (au [0,2,0,0,0,0] F)
   refine aN [2] (by kernel_rfl) F ⟨⟨_,F,F,bN (v:=(vI d.start)) bT aM F F F (fun bA=>⟨au [5] F,?_⟩)⟩,trivial⟩
   refine aN [9] (by kernel_rfl) F ⟨⟨_,F,F,bj (vs:=[(.slice (aD bA) 1 1)]) 1 bP F F F F ⟨au [5] F,?_⟩⟩,trivial⟩
   refine aN [10] (by kernel_rfl) F ⟨⟨_,F,F,bj (vs:=[(.slice (aD bB) d.next.length d.next.length)]) 3 ce F F F F ⟨au [5] F,?_⟩⟩,trivial⟩
   exact cH (by kernel_rfl) ⟨bA,bB,bC,bD,F,(.of F)⟩ (au [1,2,0,0,0,0] F)
  refine aN [2,6] (by kernel_rfl) F ⟨⟨_,F,F,bN (v:=(vI d.start)) bT aM F F F (fun bA=>⟨au [4] F,?_⟩)⟩,⟨_,F,F,bV (m:=d.next.length) dF dc F F (by omega) (by omega) (fun bB=>⟨au [4] F,?_⟩)⟩,trivial⟩
  ·refine aN [6,9] (by kernel_rfl) F ⟨⟨_,F,F,bV (m:=d.next.length) dF dc F F (by omega) (by omega) (fun bB=>⟨au [5] F,?_⟩)⟩,⟨_,F,F,bj (vs:=[(.slice (aD bA) 1 1)]) 1 bP F F F F ⟨au [4] F,?_⟩⟩,trivial⟩
   ·refine aN [9] (by kernel_rfl) F ⟨⟨_,F,F,bj (vs:=[(.slice (aD bA) 1 1)]) 2 bP F F F F ⟨au [5] F,?_⟩⟩,trivial⟩
    refine aN [10] (by kernel_rfl) F ⟨⟨_,F,F,bj (vs:=[(.slice (aD bB) d.next.length d.next.length)]) 3 ce F F F F ⟨au [5] F,?_⟩⟩,trivial⟩
    exact cH (by kernel_rfl) ⟨bA,bB,bC,bD,F,(.of F)⟩ (au [2,2,1,0,0,0] F)
   refine aN [6] (by kernel_rfl) F ⟨⟨_,F,F,bV (m:=d.next.length) dF dc F F (by omega) (by omega) (fun bB=>⟨au [5] F,?_⟩)⟩,trivial⟩
   refine aN [10] (by kernel_rfl) F ⟨⟨_,F,F,bj (vs:=[(.slice (aD bB) d.next.length d.next.length)]) 3 ce F F F F ⟨au [5] F,?_⟩⟩,trivial⟩
   exact cH (by kernel_rfl) ⟨bA,bB,bC,bD,F,(.of F)⟩ (au [2,2,1,0,0,0] F)
  refine aN [2] (by kernel_rfl) F ⟨⟨_,F,F,bN (v:=(vI d.start)) bT aM F F F (fun bA=>⟨au [5] F,?_⟩)⟩,trivial⟩
  refine aN [9] (by kernel_rfl) F ⟨⟨_,F,F,bj (vs:=[(.slice (aD bA) 1 1)]) 2 bP F F F F ⟨au [5] F,?_⟩⟩,trivial⟩
  refine aN [10] (by kernel_rfl) F ⟨⟨_,F,F,bj (vs:=[(.slice (aD bB) d.next.length d.next.length)]) 3 ce F F F F ⟨au [5] F,?_⟩⟩,trivial⟩
  exact cH (by kernel_rfl) ⟨bA,bB,bC,bD,F,(.of F)⟩ (au [2,2,0,0,0,0] F)
 rintro ρ O ⟨bA,bB,bC,bD,rfl,hH⟩
 obtain⟨eP,rfl⟩:=hH.elim
 clear hH
 refine ai (ad (aO 1 dF F F F F) (ad (aJ cy F aM F F) (ad (aO 5 dh F F F F) (ad (xE (i:=d.start) dF dc F F (cw (mG 3 F)) sB nL (by rw[List.length_replicate];exact nL)) (aj F (jW (j:=d.start.toNat) (v:=.bool true) (vs:=[(.bool true)]) (cs:=List.replicate d.next.length (.bool false)) 3 dc F F F F F (by simp) F (by first|(simp;omega)|(simp_all;omega)) ?_))))))
 refine bM (O':=[oI bC 56 [(.slice (aD bA) 1 1)],oI bD 23 [(.slice (aD bB) d.next.length d.next.length)],ak (aD bA) 1 3 1 [(vI d.start)],ak (aD bB) d.next.length 4 1 (aU ((List.replicate d.next.length false).set d.start.toNat true)),oI z2 25 [(vI 0),(vI 0),nS,nS],oI z1 25 [(vI d.vars),(vI d.start),(.slice nb d.next.length nc),(.slice fb d.aA.length fc)]]) (by rw[show dl (List.replicate d.next.length (.bool false)) d.start.toNat [(.bool true)]=aU ((List.replicate d.next.length false).set d.start.toNat true)from by simp[dl]];exact a_ (List.Sublist.refl _)) ?_
 refine ae (ai (ad (dX) (TO.qa F (ae (ai (ad (aJ cy F aM F F) (ad (aO 5 dh F F F F) (ad (aJ cy F aM F F) (aj F (bj (vs:=[(vI d.vars)]) 4 aM F F F F ?_))))))))))
 refine ae (ax ?_)
 have XN: [oI z1 25 [(vI d.vars),(vI d.start),(.slice nb d.next.length nc),(.slice fb d.aA.length fc)],oI bC 56 [(.slice (aD bA) 1 1)],ak (aD bA) 1 3 1 [(vI d.start)],oI bD 23 [(.slice (aD bB) d.next.length d.next.length)],ak (aD bB) d.next.length 4 1 (aU ((List.replicate d.next.length false).set d.start.toNat true))]=[oI z1 25 [(vI d.vars),(vI d.start),(.slice nb d.next.length nc),(.slice fb d.aA.length fc)],oI bC 56 [(.slice (aD bA) 1 1)],ak (aD bA) 1 3 1 (aQ [d.start.toNat]),oI bD 23 [(.slice (aD bB) d.next.length d.next.length)],ak (aD bB) d.next.length 4 1 (aU ((List.replicate d.next.length false).set d.start.toNat true))]:=by
  rw[show aQ [d.start.toNat]=[vI d.start] by simp[Int.toNat_of_nonneg sB]]
 have Vi: ∀t,t<d.next.length→((List.replicate d.next.length false).set d.start.toNat true)[t]? =some (decide (t∈[d.start.toNat])):=fun t ht=>by
  by_cases e:t=d.start.toNat
  ·subst e;rw[List.getElem?_set_self (by simpa using ht)];simp
  ·rw[List.getElem?_set_ne (fun h=>e h.symm)];simp[ht,e]
 refine T.ds [oI z1 25 [(vI d.vars),(vI d.start),(.slice nb d.next.length nc),(.slice fb d.aA.length fc)]] [(0,0),(1,0),(2,0),(3,0),(4,0),(5,0),(6,0),(7,0),(9,0),(8,1),(10,1),(11,0),(12,0),(13,0),(14,0),(15,1)] (au [5] F) ?_
 refine am F (aJ cy F aM F F) (am F (aO 0 dh F F F F) (am F (mJ (v:=d.vars.toNat) F (by show Value.int _ d.vars=_;rw[Int.toNat_of_nonneg hv.v0]) (by have:=hv.v6;omega)) (am F (aJ cy F cU F F) (am F (aO 0 dB F F F F) (am F (bL dB F) (am F (aJ cy F aM F F) (am F (a8 (aO 0 dh F F F F) (v':=vI ((d.start.toNat:Nat):Int)) (by rw[Int.toNat_of_nonneg sB])) (am F (aF F) ?_))))))))
 have oT:=fun(w1:World) (hI:Inv w [oI bC 56 [(.slice (aD bA) 1 1)],oI bD 23 [(.slice (aD bB) d.next.length d.next.length)],ak (aD bA) 1 3 1 [(vI d.start)],ak (aD bB) d.next.length 4 1 (aU ((List.replicate d.next.length false).set d.start.toNat true)),oI z2 25 [(vI d.vars),(vI 0),nS,nS],oI z1 25 [(vI d.vars),(vI d.start),(.slice nb d.next.length nc),(.slice fb d.aA.length fc)]] w1)=>(haveI:=dp hI;JT w1 d.start.toNat (by omega))
 refine bJ F F (aI I2 (aE oT) F ?_)
 clear oT
 rintro v O' ⟨N,rfl,rfl,rfl⟩
 refine⟨au [5] F,?_⟩
 have vB:=bw.under (B:=[oI z2 25 [(vI d.vars),(vI 0),nS,nS]]) (O:=[oI bC 56 [(.slice (aD bA) 1 1)],oI bD 23 [(.slice (aD bB) d.next.length d.next.length)],ak (aD bA) 1 3 1 [(vI d.start)],ak (aD bB) d.next.length 4 1 (aU ((List.replicate d.next.length false).set d.start.toNat true)),oI z2 25 [(vI d.vars),(vI 0),nS,nS],oI z1 25 [(vI d.vars),(vI d.start),(.slice nb d.next.length nc),(.slice fb d.aA.length fc)]]) (JS w (Ci d) (2^d.vars.toNat) d.next.length (Lib.decDigits d.start.toNat) (.func (.func 84) #[] #[.pointer (aD z1),.pointer (aD bC),.pointer (aD bD)]) (QV d nb fb nc fc z1 bB bC bD) (fun ks=>ks.length≤d.next.length) hv.width hv.n4 (fun ks s x O hs hx _ hJ=>Vg w d nb fb nc fc vs h hv hn z1 bB bC bD ks s x O hs hx hJ) (fun _ h=>h) [oI z1 25 [(vI d.vars),(vI d.start),(.slice nb d.next.length nc),(.slice fb d.aA.length fc)],oI bC 56 [(.slice (aD bA) 1 1)],ak (aD bA) 1 3 1 [(vI d.start)],oI bD 23 [(.slice (aD bB) d.next.length d.next.length)],ak (aD bB) d.next.length 4 1 (aU ((List.replicate d.next.length false).set d.start.toNat true))] (by simp;omega) ⟨[d.start.toNat],(List.replicate d.next.length false).set d.start.toNat true,some ⟨bA,0,none⟩,1,F,XN,by simp,by simp;omega,by simp,Vi⟩) (au [5,0,1,0,0,0] F)
 refine bJ F F (aI UR vB F ?_)
 clear vB
 rintro v O' ⟨A1,rfl,rb,rc,qs,N,O1,rfl,rfl,⟨os,sn,ob,oc,nq,rfl,jT,F8,Ha,aa4⟩,hgl,Vj,hE,kT⟩
 refine⟨eB ([ak rb rc 56 1 (bO qs)]++bl 3 qs++[oI bC 56 [(.slice ob os.length oc)],ak ob oc 3 1 (aQ os),oI bD 23 [(.slice (aD bB) d.next.length d.next.length)],ak (aD bB) d.next.length 4 1 (aU sn),oI z2 25 [(vI d.vars),(vI 0),nS,nS]]),?_⟩
 refine de (O':=[ak rb rc 56 1 (bO qs),oI z1 25 [(vI d.vars),(vI d.start),(.slice nb d.next.length nc),(.slice fb d.aA.length fc)],oI bC 56 [(.slice ob os.length oc)],ak ob oc 3 1 (aQ os),oI bD 23 [(.slice (aD bB) d.next.length d.next.length)],ak (aD bB) d.next.length 4 1 (aU sn),oI z2 25 [(vI d.vars),(vI 0),nS,nS]]++bl 3 qs) (eB []) ?_
 refine am F (aF F) (am F (bm (vs:=_) F F) (am F (bm (vs:=_) F F) (am F (aJ cy F cU F F) ?_)))
 refine bJ F F (bj (vs:=[(.slice rb N rc)]) 6 cU F F F F ⟨dN [1] [ak rb rc 56 1 (bO qs),oI z1 25 [(vI d.vars),(vI d.start),(.slice nb d.next.length nc),(.slice fb d.aA.length fc)],oI bC 56 [(.slice ob os.length oc)],ak ob oc 3 1 (aQ os),oI bD 23 [(.slice (aD bB) d.next.length d.next.length)],ak (aD bB) d.next.length 4 1 (aU sn),oI z2 25 [(vI d.vars),(vI 0),(.slice rb N rc),nS]] (bl 3 qs) F F,?_⟩)
 refine bu ?_
 refine ax (ai (ad (aO 2 bT F F F F) (ad (bL bT F) (ah F (ae (aC ?_))))))
 have TS:=dR jT F8
 refine T.dt 4 1 ?_
 refine ck (fun(k:Nat) ρ O=> ∃(fI:Option Addr) (fJ:Nat),O=([ak fI fJ 4 1 (aU ((os.take k).map fun o=>d.aA.getD o false)),ak rb rc 56 1 (bO qs),oI z1 25 [(vI d.vars),(vI d.start),(.slice nb d.next.length nc),(.slice fb d.aA.length fc)],oI bC 56 [(.slice ob os.length oc)],ak ob oc 3 1 (aQ os),oI bD 23 [(.slice (aD bB) d.next.length d.next.length)],ak (aD bB) d.next.length 4 1 (aU sn),oI z2 25 [(vI d.vars),(vI 0),(.slice rb N rc),(.slice fI k fJ)]]++(bl 3 qs))∧k≤os.length∧bZ [(0,(.agg #[(vI d.vars),(vI d.start),(.slice nb d.next.length nc),(.slice fb d.aA.length fc)])),(1,(.pointer (aD z1))),(2,(.pointer (aD z2))),(3,vI 0),(4,vI ((0:Nat):Int)),(5,(.pointer (aD bC))),(6,(.pointer (aD bD))),(7,(.func (.func 84) #[] #[(.pointer (aD z1)),(.pointer (aD bC)),(.pointer (aD bD))])),(46,(.slice ob os.length oc)),(47,vI (os.length:Int)),(48,vI (k:Int))] ρ) (fun k=>os.length-k) 0 ?_ ?_
 ·exact⟨none,0,F,Nat.zero_le _,(.of F)⟩
 rintro k ρ O ⟨fI,fJ,rfl,hk,hH⟩
 obtain⟨eP,rfl⟩:=hH.elim
 clear hH
 refine ai (ad (bI F F) (ae (ax (aw F (fun hc=>?_) (fun hc=>?_)))))
 ·have NW:k<os.length:=by omega
  have My:os[k]<d.next.length:=F8 _ (List.getElem_mem NW)
  have XT:os[k]<d.aA.length:=by have:=hv.fin;omega
  refine aq (ax (aC (ai (ad (cq (i:=k) bT aM F F (cw (mG 4 F))) (ad (bS dh F F (cw (mG 4 F)) eK) (TO.qa F (ae ?_)))))))
  refine T.ds [oI z1 25 [(vI d.vars),(vI d.start),(.slice nb d.next.length nc),(.slice fb d.aA.length fc)],oI z2 25 [(vI d.vars),(vI 0),(.slice rb N rc),(.slice fI k fJ)]] [(0,0),(1,0),(2,0),(3,0),(4,0),(5,0),(6,0),(7,1),(8,2),(9,2),(10,2)] (dN [2,6] [ak fI fJ 4 1 (aU ((os.take k).map fun o=>d.aA.getD o false)),ak rb rc 56 1 (bO qs),oI z1 25 [(vI d.vars),(vI d.start),(.slice nb d.next.length nc),(.slice fb d.aA.length fc)],oI bC 56 [(.slice ob os.length oc)],ak ob oc 3 1 (aQ os),oI bD 23 [(.slice (aD bB) d.next.length d.next.length)],ak (aD bB) d.next.length 4 1 (aU sn),oI z2 25 [(vI d.vars),(vI 0),(.slice rb N rc),(.slice fI k fJ)]] (bl 3 qs) F F) ?_
  refine am F (aJ cy F ce F F) (am F (aO 1 dF F F F F) (am F (aJ cy F ce F F) (am F (aO 0 dF F F F F) (am F (aF F) (am F (cq (i:=os[k]) dF dc F F (aB h.aA)) (am F (bS oe F F (aB h.aA) gu) ?_))))))
  refine bJ F F (bN (v:=.bool d.aA[os[k]]) dF dc F F F (fun z3=>⟨dN [3,7] [ak (aD z3) 1 4 1 [.bool d.aA[os[k]]],ak fI fJ 4 1 (aU ((os.take k).map fun o=>d.aA.getD o false)),ak rb rc 56 1 (bO qs),oI z1 25 [(vI d.vars),(vI d.start),(.slice nb d.next.length nc),(.slice fb d.aA.length fc)],oI bC 56 [(.slice ob os.length oc)],ak ob oc 3 1 (aQ os),oI bD 23 [(.slice (aD bB) d.next.length d.next.length)],ak (aD bB) d.next.length 4 1 (aU sn),oI z2 25 [(vI d.vars),(vI 0),(.slice rb N rc),(.slice fI k fJ)]] (bl 3 qs) F F,?_⟩))
  refine bq F F (bX 1 dF dF dc F F F F (by simp;omega) (by decide) (Src.row (j:=0) F (by simp)) (by simp[dD]) (by omega) (by decide) (by decide) (fun z4 CO=>?_))
  refine bq F F (dG F F (aJ cy F ce F F) ?_)
  refine bq F F (bj (vs:=[(.slice z4 (k+1) CO)]) 8 ce F F F F ?_)
  refine de (O':=([ak z4 CO 4 1 ((aU ((os.take k).map fun o=>d.aA.getD o false))++[.bool d.aA[os[k]]]),ak rb rc 56 1 (bO qs),oI z1 25 [(vI d.vars),(vI d.start),(.slice nb d.next.length nc),(.slice fb d.aA.length fc)],oI bC 56 [(.slice ob os.length oc)],ak ob oc 3 1 (aQ os),oI bD 23 [(.slice (aD bB) d.next.length d.next.length)],ak (aD bB) d.next.length 4 1 (aU sn),oI z2 25 [(vI d.vars),(vI 0),(.slice rb N rc),(.slice z4 (k+1) CO)]]++(bl 3 qs))) (ez [1,1,1,1,1,1,1,1] [ak (aD z3) 1 4 1 [.bool d.aA[os[k]]],ak z4 CO 4 1 ((aU ((os.take k).map fun o=>d.aA.getD o false))++[.bool d.aA[os[k]]]),ak rb rc 56 1 (bO qs),oI z1 25 [(vI d.vars),(vI d.start),(.slice nb d.next.length nc),(.slice fb d.aA.length fc)],oI bC 56 [(.slice ob os.length oc)],ak ob oc 3 1 (aQ os),oI bD 23 [(.slice (aD bB) d.next.length d.next.length)],ak (aD bB) d.next.length 4 1 (aU sn),oI z2 25 [(vI d.vars),(vI 0),(.slice rb N rc),(.slice z4 (k+1) CO)]] (bl 3 qs) F F) ?_
  refine bu ?_
  refine aH (ad (ey F F (by omega)) (ah F (ae ?_)))
  have pX:(List.take (k+1) os).map (fun o=>d.aA.getD o false)=(List.take k os).map (fun o=>d.aA.getD o false)++[d.aA[os[k]]]:=by
   rw[List.take_succ_eq_append_getElem NW,List.map_append];simp[XT]
  exact⟨k+1,by omega,z4,CO,by rw[pX,show aU ((List.take k os).map (fun o=>d.aA.getD o false)++[d.aA[os[k]]])=aU ((List.take k os).map fun o=>d.aA.getD o false)++[.bool d.aA[os[k]]]from List.map_append],by omega,(.of F)⟩
 have Zp: ¬k<os.length:=by omega
 refine bn ?_
 refine ai (ad (cN 7 cy F aX F F F) (aj F (bj (vs:=[(vI d.vars),(vI 0),(.slice rb N rc),(.slice fI k fJ)]) 7 aX F F F F ?_)))
 refine TO.qa F (ae (az (ao ?_)))
 refine iJ (vI 0) (i:=7) Tryz.results52 cy F aX F F F F ?_
 have Gs:k=os.length:=by omega
 obtain⟨ho,hN9⟩:=Gf kT nq Vj (dR jT F8)
 have Em:=JK nq hE ho hN9
 have Ol:(List.take k os).map (fun o=>d.aA.getD o false)=(cO d).aA:=by rw[List.take_of_length_le (by omega),ho];rfl
 have uw:(cO d).next.length=N:=by rw[←Em,hE.len]
 have KC:(cO d).aA.length=k:=by rw[←Ol,List.length_map,List.length_take];omega
 refine⟨[ak rb rc 56 1 (bO qs),ak fI fJ 4 1 (aU ((os.take k).map fun o=>d.aA.getD o false))]++bl 3 qs,(ez [1,0] [ak fI fJ 4 1 (aU ((os.take k).map fun o=>d.aA.getD o false)),ak rb rc 56 1 (bO qs),oI z1 25 [(vI d.vars),(vI d.start),(.slice nb d.next.length nc),(.slice fb d.aA.length fc)],oI bC 56 [(.slice ob os.length oc)],ak ob oc 3 1 (aQ os),oI bD 23 [(.slice (aD bB) d.next.length d.next.length)],ak (aD bB) d.next.length 4 1 (aU sn),oI z2 25 [(vI d.vars),(vI 0),(.slice rb N rc),(.slice fI k fJ)]] (bl 3 qs) F F),rb,rc,fI,fJ,qs,?_,by rw[Ol],Em⟩
 show Value.tuple #[Value.agg (List.toArray [vI d.vars,vI 0,.slice rb N rc,.slice fI k fJ]),_]=Value.tuple #[Value.agg (List.toArray [vI d.vars,vI 0,.slice rb (cO d).next.length rc,.slice fI (cO d).aA.length fJ]),_]
 rw[uw,KC]
end Go.Proofs.YtgdbfideeeegmaaGreatDoor


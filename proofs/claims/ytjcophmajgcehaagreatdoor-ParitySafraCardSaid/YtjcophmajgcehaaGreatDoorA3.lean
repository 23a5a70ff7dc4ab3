/- Contracts. -/
import Derived.Test.YtjcophmajgcehaaGreatDoorCards
import Derived.Test.YtjcophmajgcehaaGreatDoorTie
import Derived.ProofKit
import Derived.Lib.LaidTab
import Derived.Shelf.Spec.TrailingZeros
import Derived.Test.YtjcophmajgcehaaGreatDoorProg
import Derived.Test.YtjcophmajgcehaaGreatDoorA2
set_option linter.all false
set_option maxHeartbeats 8000000
set_option maxRecDepth 20000
namespace Go.Proofs.YtjcophmajgcehaaGreatDoor
open Go.Lx Go.RowKit _root_.Go.Proofs.Tryz
theorem Lw (w:World) [eT prog w] (c:Nat):
  cR prog 37 [.slice none 0 c] w fun v N=> ∃b' c',v=.slice b' 0 c'∧N=[ak b' c' 3 1 []]:=by
 refine aF func37 F ntmps37 F ?_
 refine a8 (bh (bJ (aQ (bF (oP underlying22 F F) ?_))))
 refine cJ ?_
 refine ba (T.dH 3 1 ?_)
 refine aJ (ai (cF ?_))
 refine aM nS results37 F ?_
 exact⟨_,_,F,F⟩
theorem Ia (w:World) [eT prog w] (a:Addr) (c:Nat) (xs:List Int) (h1:Sl w (some a) (ints xs)) (hb:xs.length≤1000000000):
  cR prog 37 [.slice (some a) xs.length c] w fun v N=> ∃b' c',v=.slice b' xs.length c'∧N=[ak b' c' 3 1 (ints xs)]:=by
 refine aF func37 F ntmps37 F ?_
 refine a8 (bh (bJ (aQ (bF (oP underlying22 F F) (cK (aE (a8 (au (cW (m:=0) (parts:=[]) (cs:=[]) underlying22 bt (by decide) (by simp[Instr.fill]) F (fun b1=>?_))))))))))
 refine aQ (au (dp 0 underlying22 underlying22 bt F F F F (by simp) (by decide) (Src.sl h1 (by simp)) (Np xs) (by omega) (by decide) (by decide) (fun dk c2=>?_)))
 refine ai (cF ?_)
 refine aM (.slice dk (0+xs.length) c2) results37 F ?_
 exact⟨_,_,by rw[Nat.zero_add],F⟩
theorem BV (w:World) [eT prog w] (b:Option Addr) (c:Nat) (xs:List Int) (h1:Sl w b (ints xs)) (hb:xs.length≤1000000000):
  cR prog 37 [.slice b xs.length c] w fun v N=> ∃b' c',v=.slice b' xs.length c'∧N=[ak b' c' 3 1 (ints xs)]:=by
 cases b with
 |none=>
  have hx:xs=[]:=by
   cases xs with
   |nil=>rfl
   |cons x xs=>obtain⟨_,_,e⟩:=h1.addr (i:=0) (by simp);cases e
  subst hx
  exact Lw w c
 |some a=>exact Ia w a c xs h1 hb
theorem Ly (w:World) [eT prog w] (c:Nat):
  cR prog 118 [.slice none 0 c] w fun v N=> ∃b' c',v=.slice b' 0 c'∧N=[ak b' c' 5 1 []]:=by
 refine aF func118 F ntmps118 F ?_
 refine a8 (bh (bJ (aQ (bF (oP underlying27 F F) ?_))))
 refine cJ ?_
 refine ba (T.dH 5 1 ?_)
 refine aJ (ai (cF ?_))
 refine aM nS results118 F ?_
 exact⟨_,_,F,F⟩
theorem Ib (w:World) [eT prog w] (a:Addr) (c:Nat) (xs:List Nat) (h1:Sl w (some a) (ek xs)) (hb:xs.length≤1000000000):
  cR prog 118 [.slice (some a) xs.length c] w fun v N=> ∃b' c',v=.slice b' xs.length c'∧N=[ak b' c' 5 1 (ek xs)]:=by
 refine aF func118 F ntmps118 F ?_
 refine a8 (bh (bJ (aQ (bF (oP underlying27 F F) (cK (aE (a8 (au (cW (m:=0) (parts:=[]) (cs:=[]) underlying27 fS (by decide) (by simp[Instr.fill]) F (fun b1=>?_))))))))))
 refine aQ (au (dp 0 underlying27 underlying27 fS F F F F (by simp) (by decide) (Src.sl h1 (by simp)) (EE xs) (by omega) (by decide) (by decide) (fun dk c2=>?_)))
 refine ai (cF ?_)
 refine aM (.slice dk (0+xs.length) c2) results118 F ?_
 exact⟨_,_,by rw[Nat.zero_add],F⟩
theorem Db (w:World) [eT prog w] (b:Option Addr) (c:Nat) (xs:List Nat) (h1:Sl w b (ek xs)) (hb:xs.length≤1000000000):
  cR prog 118 [.slice b xs.length c] w fun v N=> ∃b' c',v=.slice b' xs.length c'∧N=[ak b' c' 5 1 (ek xs)]:=by
 cases b with
 |none=>
  have hx:xs=[]:=by
   cases xs with
   |nil=>rfl
   |cons x xs=>obtain⟨_,_,e⟩:=h1.addr (i:=0) (by simp);cases e
  subst hx
  exact Ly w c
 |some a=>exact Ib w a c xs h1 hb
theorem adS (w:World) [eT prog w] (n:Nat) (hn:n≤1000000000):
  cR prog 130 [nS,vI (n:Int)] w fun v N=> ∃b c,v=.slice b 0 c∧N=[ak b c 5 1 []]:=by
 refine aF func130 F ntmps130 F ?_
 refine a8 (bh (bJ (aQ (bF cH (cK (aE (ba (bI (az (U6 underlying27 F) (aQ ?_))))) (av Value.bool (bT (by omega))))))))
 refine ad (bV underlying27) (ad (il (a:=0) (b:=0) F F (by omega) (by omega)) (ad (bH (il (a:=n) (b:=0) F F (by omega) (by omega)) (v':=vI ((n:Nat):Int)) (by rw[Nat.sub_zero])) (ai (bP fg (TO.nl (aH F (fun hc=>?_) (fun hc=>?_)))))))
 ·have IF:n>0:=by omega
  refine aJ (aQ (az (U6 underlying27 F) (ad (jM (hi:=0) underlying27 fS F F (aV _)) (aQ (au (KC (m:=n) underlying27 underlying3 fS F F F (by omega) (by omega) (by decide) (by decide) (fun gb gc hgc=>?_)))))))
  refine az (bV underlying27) (au (B3 (m:=0) 0 underlying27 fS F F F (by omega) ?_))
  refine cY (O':=[ak gb gc 5 1 []]) (by rw[show((List.replicate n (Value.int .u8 0)).take (0*1):List Value)=[]from(by simp)];exact bj (ay _)) ?_
  refine ai (ba ?_)
  
  refine aJ (aQ (bm ?_))
  refine aM (.slice gb 0 gc) results130 F ?_
  exact⟨_,bj (ay _),_,_,F,F⟩
 have IG: ¬n>0:=by omega
 refine aE (ba (T.dH 5 1 ?_))
 refine aJ (aQ (bm ?_))
 refine aM nS results130 F ?_
 exact⟨_,bj (ay _),_,_,F,F⟩
theorem xu (w:World) [eT prog w] (b:Option Addr) (c:Nat) (vs:List Value) (ws:List (List Nat)) (hS:Sl w b vs) (hW:pN w vs ws) (hl:ws.length≤1000000) (hb:ws.flatten.length≤1000000000):
  cR prog 119 [.slice b ws.length c] w fun v N=> ∃b' c',v=.slice b' ws.flatten.length c'∧N=[ak b' c' 5 1 (ek ws.flatten)]:=by
 refine aF func119 F ntmps119 F ?_
 refine a8 (ai (a8 (bh (bJ (az (bV underlying183) (aS (aw ?_)))))))
 let dC:Value:=(.slice b ws.length c)
 refine cX (fun(k:Nat) ρ O=>O=[]∧k≤ws.length∧cL [(0,dC),(2,nS),(3,vI (((ws.take k).flatten.length:Nat):Int)),(9,dC),(10,vI (ws.length:Int)),(11,vI (k:Int))] ρ) (fun k=>ws.length-k) 0 ?_ ?_
 ·exact⟨F,aG _,(.of F)⟩
 rintro k ρ O ⟨rfl,hk,hH⟩
 obtain⟨fy,rfl⟩:=hH.elim
 clear hH
 refine aB cH (TO.ns (aH F (fun hc=>?_) (fun hc=>?_)))
 ·have F8:k<ws.length:=by omega
  obtain⟨rb,rc,g1,s1⟩:=hW.get F8
  have wy:=Ci (ws:=ws) (k+1)
  rw[rL F8,aI]at wy
  refine aE (ba (aw (aB (b8 k underlying183 fX F F (bS hS) (by first|assumption|omega|(simp;omega)|simp_all) (by rw[hW.1];exact F8)) (ad (eA underlying27 F F hS g1) (ai (bI (az (bV underlying27) (ad (bK (b:=ws[k].length) (((ws.take k).flatten.length)) F F (by omega)) (ai (bP cH (TO.nl ?_)))))))))))
  refine cK (aE (aJ (ad (bK (b:=1) k F F (by omega)) (aS ?_)))) (av Value.bool (bT (by omega)))
  refine⟨k+1,by omega,F,by omega,?_⟩
  rw[rL F8,aI];exact(.of F)
 have adT: ¬k<ws.length:=by omega
 refine bA ?_
 refine bI (TO.lc X_ (aK fun w1 hI=>(haveI:=Inv.tab (P:=prog) hI;adS w1 (ws.take k).flatten.length (by have:=Ci (ws:=ws) k;omega))) ?_)
 rintro vr O' ⟨N,rfl,gb,gc,rfl,rfl⟩
 refine bh (bJ (az (bV underlying183) (aS (aw ?_))))
 refine cX (fun(j:Nat) ρ O=> ∃(gb2:Option Addr) (gc2:Nat),O=[ak gb2 gc2 5 1 (ek (ws.take j).flatten)]∧j≤ws.length∧cL [(0,dC),(2,nS),(3,vI (((ws.take k).flatten.length:Nat):Int)),(6,(.slice gb2 ((ws.take j).flatten.length) gc2)),(25,dC),(26,vI (ws.length:Int)),(27,vI (j:Int))] ρ) (fun j=>ws.length-j) 0 ?_ ?_
 ·exact⟨gb,gc,F,aG _,(.of F)⟩
 rintro j ρ O ⟨gb2,gc2,rfl,hj,hH⟩
 obtain⟨fy,rfl⟩:=hH.elim
 clear hH
 refine aB cH (TO.ns (aH F (fun hc=>?_) (fun hc=>?_)))
 ·have xD:j<ws.length:=by omega
  obtain⟨rb,rc,g1,s1⟩:=hW.get xD
  have wy:=Ci (ws:=ws) (j+1)
  rw[rL xD,aI]at wy
  refine aE (ba (aw (aB (b8 j underlying183 fX F F (bS hS) (by first|assumption|omega|(simp;omega)|simp_all) (by rw[hW.1];exact xD)) (ad (eA underlying27 F F hS g1) (ai (aJ (dr (au (dp 0 underlying27 underlying27 fS F F F F (by rw[ag,Nat.mul_one]) (by decide) (Src.sl s1 (by simp)) (EE ws[j]) (by omega) (by decide) (by decide) (fun dk c2=>?_))))))))))
  refine ai (aJ (ad (bK (b:=1) j F F (by omega)) (aS ?_)))
  have e:=rL xD
  refine⟨j+1,by omega,dk,c2,?_,by omega,?_⟩
  ·rw[e,show ek ((ws.take j).flatten++ws[j])=ek (ws.take j).flatten++ek ws[j]from aL];rfl
  ·rw[e,aI];exact(.of F)
 have Mt: ¬j<ws.length:=by omega
 refine bA ?_
 refine bI (bm ?_)
 refine aM (.slice gb2 ((ws.take j).flatten.length) gc2) results119 F ?_
 have J4:j=ws.length:=by omega
 subst J4
 rw[List.take_length]
 exact⟨_,bj (ay _),_,_,F,F⟩
theorem F9 (base:World) [eT prog base] (b:Option Addr) (c c':Nat) (xs:List Nat) (hb:xs.length≤1000000000):
  cZ prog base 116 [.slice b xs.length c'] [ak b c 5 1 (ek xs)] (fun _ O'=>O'=[ak b c 5 1 (ek xs.reverse)]):=by
 refine aF func116 F ntmps116 F ?_
 refine bP (bV underlying27) (ad (w4 F F (by omega)) (bh (ai (aw ?_))))
 refine cX (fun(i:Nat) ρ O=> ∃(ys:List Nat),O=[ak b c 5 1 (ek ys)]∧i≤xs.length∧ys.length=xs.length∧(∀q,q<xs.length→ys[q]? =if q<i∨xs.length≤q+i then xs[xs.length-1-q]? else xs[q]?)∧cL [(0,(.slice b xs.length c')),(2,vI (i:Int)),(3,vI ((xs.length:Int)-1-(i:Int)))] ρ) (fun i=>xs.length-i) 0 ?_ ?_
 ·exact⟨xs,F,aG _,F,(fun q hq=>by rw[ar (by omega)]),⟨F,F,(by show Value.int .i64 ((xs.length:Int)-1)=Value.int .i64 ((xs.length:Int)-1-((0:Nat):Int));congr 1;omega),trivial⟩⟩
 rintro i ρ O ⟨ys,rfl,hi,Up,hys,hH⟩
 obtain⟨fy,rfl⟩:=hH.elim
 clear hH
 refine ba (bI (aQ (bF cH (aH F (fun hc=>?_) (fun hc=>?_)))))
 ·obtain⟨j,hj⟩: ∃j:Nat,(xs.length:Int)-1-i=(j:Int):=⟨xs.length-1-i,by omega⟩
  have wK:i<j:=by omega
  have qc:j<xs.length:=by omega
  refine aE (ba (aw ?_))
  refine nh [] [ak b c 5 1 (ek ys)] [(0,0),(1,0),(2,0),(3,0),(4,0),(5,0),(6,3),(7,3),(8,0),(9,0),(10,3),(11,3),(12,3),(13,4),(14,2),(15,2)] mixed (tM (by kernel_rfl)) (bj (aX _)) (aR [0]) (fun _ _ _ _ h=>h) ?_
  refine am F aC (am F aC (am F aC (am F (bH aC (v':=vI ((j:Nat):Int)) (by show Value.int _ _=_;rw[←hj])) (am F aC (am F (bH aC (v':=vI ((j:Nat):Int)) (by show Value.int _ _=_;rw[←hj])) ?_)))))
  refine ir F (b8 j underlying27 fS F F (bU 0)) ?_
  refine ir F (dR underlying5 F F (bU 0) h_) ?_
  refine am F aC (am F aC ?_)
  refine ir F (b8 i underlying27 fS F F (bU 0)) ?_
  refine ir F (dR underlying5 F F (bU 0) h_) ?_
  refine ir F (b8 i underlying27 fS F F (bU 0)) ?_
  refine py F F (gw (v:=.int .u8 ((ys[j]:Nat):Int)) (vs:=[(.int .u8 ((ys[j]:Nat):Int))]) (cs:=ek ys) i 0 fS F F F F F (by simp) F (by first|(simp;omega)|(simp_all;omega)) ⟨aR [],?_⟩)
  refine eM (O':=[ak b c 5 1 (ek (ys.set i ys[j]))]) (by rw[show dq (ek ys) i [(.int .u8 ((ys[j]:Nat):Int))]=ek (ys.set i ys[j])from(by simp[dq])];exact bj (ay _)) ?_
  refine cG F F (iE F F (b8 j underlying27 fS F F (bU 0)) ?_)
  refine cG F F (gw (v:=.int .u8 ((ys[i]:Nat):Int)) (vs:=[(.int .u8 ((ys[i]:Nat):Int))]) (cs:=ek (ys.set i ys[j])) j 0 fS F F F F F (by simp) F (by first|(simp;omega)|(simp_all;omega)) ?_)
  refine eM (O':=[ak b c 5 1 (ek ((ys.set i ys[j]).set j ys[i]))]) (by rw[show dq (ek (ys.set i ys[j])) j [(.int .u8 ((ys[i]:Nat):Int))]=ek ((ys.set i ys[j]).set j ys[i])from(by simp[dq])];exact bj (ay _)) ?_
  refine cl ?_
  refine aJ (az (bK (b:=1) i F F (by omega)) (az (w4 F F (by omega)) (bh (ai ?_))))
  refine⟨i+1,by omega,(ys.set i ys[j]).set j ys[i],F,by omega,by simp[Up],fun q hq=>?_,⟨F,F,?_,trivial⟩⟩
  ·have h1:=hys i (by omega)
   have h2:=hys j qc
   rw[ah (by omega),ar (by omega)]at h1 h2
   rw[List.getElem?_set,List.getElem?_set]
   by_cases e1:j=q
   ·subst e1
    rw[aA F,aA (by simp;omega),aA (by omega),h1];congr 1;omega
   ·rw[ar e1]
    by_cases e2:i=q
    ·subst e2
     rw[aA F,aA (by omega),aA (by omega),h2];congr 1;omega
    ·rw[ar e2,hys q hq]
     by_cases e3:q<i∨xs.length≤q+i
     ·rw[aA e3,aA (by omega)]
     ·rw[ar e3,ar (by omega)]
  ·show Value.int _ _=Value.int _ _;congr 1;omega
 refine bA ?_
 refine pk.zero results116 ?_
 have hyr:ys=xs.reverse:=by
  apply List.ext_getElem?
  intro q
  by_cases hq:q<xs.length
  ·rw[hys q hq,List.getElem?_reverse hq]
   split
   ·rfl
   ·congr 1;omega
  ·rw[dL (by omega),dL (by simp;omega)]
 rw[hyr]
theorem Ke (w:World) [eT prog w] (b:Bu) (sb eb tb:Option Addr) (sc ec tc:Nat) (vs:List Value) (h:nL w b sb eb tb vs) (hB:Aw b):
  cR prog 15 [.agg (bf b sb sc eb ec tb tc).toArray] w fun v N=>v=vI (cC b:Int)∧N=[]:=by
 refine aF func15 F ntmps15 F ?_
 have mK:=hB.st;have Rf:=hB.ed;have JZ:=hB.se
 have qw:=h.rows.1
 refine a8 (au (e5 ((bf b sb sc eb ec tb tc)) (fun dk=>?_)))
 refine bh (bJ (ad (bY underlying26 bt) (ad (bp 0 underlying3) (ad cH ?_))))
 by_cases Hc:b.vars<0
 ·refine ad (cm aC Hc) ?_
  refine dt (dj (bF bR ?_))
  refine cJ ?_
  refine a8 (bm ?_)
  refine aM (vI 7) results15 F ?_
  refine⟨[],bj (aX _),av (fun z:Nat=>Value.int .i64 (z:Int)) (Eq.symm (a:=cC b) (b:=7) ?_),F⟩
  exact tK (by omega)
 refine ad (cD aC Hc) (ax (bY underlying26 bt) (ax (bp 0 underlying3) (ax fg (bF ca (aH F (fun hc=>?_) (fun hc=>?_))))))
 ·refine ba ?_
  refine aJ (bm ?_)
  refine aM (vI 7) results15 F ?_
  refine⟨[],bj (aX _),av (fun z:Nat=>Value.int .i64 (z:Int)) (Eq.symm (a:=cC b) (b:=7) ?_),F⟩
  exact tK (by omega)
 refine aE (ba (aB (bY underlying26 bt) (ad (bp 0 underlying3) (bF cH (aH F (fun hc=>?_) (fun hc=>?_))))))
 ·refine ba ?_
  refine aJ (bm ?_)
  refine aM (vI 1) results15 F ?_
  refine⟨[],bj (aX _),av (fun z:Nat=>Value.int .i64 (z:Int)) (Eq.symm (a:=cC b) (b:=1) ?_),F⟩
  exact DU (by omega) (by omega)
 refine aE (ba (aB (bY underlying26 bt) (ad (bp 0 underlying3) (bF fg (aH F (fun hc=>?_) (fun hc=>?_))))))
 ·refine ba ?_
  refine aJ (bm ?_)
  refine aM (vI 10) results15 F ?_
  refine⟨[],bj (aX _),av (fun z:Nat=>Value.int .i64 (z:Int)) (Eq.symm (a:=cC b) (b:=10) ?_),F⟩
  exact AE (by omega) (by omega) (by omega)
 refine aE (ba (aB (bY underlying26 dQ) (ad (bp 0 underlying24) (ad (bV underlying24) (bF fg (aH F (fun hc=>?_) (fun hc=>?_)))))))
 ·have aaL:b.aP.length>8:=by omega
  refine a8 (bm ?_)
  refine aM (vI 4) results15 F ?_
  refine⟨[],bj (aX _),av (fun z:Nat=>Value.int .i64 (z:Int)) (Eq.symm (a:=cC b) (b:=4) ?_),F⟩
  exact DW (by omega) (by omega) (by omega) (by omega)
 have aaM: ¬b.aP.length>8:=by omega
 refine aE (ba (aB (bY underlying26 cf) (ad (bp 0 underlying22) (ad (bY underlying26 bt) (ad (bp 0 underlying3) ?_)))))
 let dC:List Lx.Item:=[oI dk 26 (bf b sb sc eb ec tb tc)]
 have Eg:=fun(w1:World) (hI:Inv w dC w1)=>(haveI:=Inv.tab (P:=prog) hI;MB w1 sb sc b.start b.ae (hI.sl h.st) mK)
 refine TO.lc Uw (aK Eg) ?_
 clear Eg
 rintro vr O' ⟨N,rfl,rfl,rfl⟩
 refine bF gM (T.cond F (fun hc=>?_) (fun hc=>?_))
 ·refine ba ?_
  refine aJ (bm ?_)
  refine aM (vI 8) results15 F ?_
  refine⟨[],bj (aX _),av (fun z:Nat=>Value.int .i64 (z:Int)) (Eq.symm (a:=cC b) (b:=8) ?_),F⟩
  exact xI (by omega) (by omega) (by omega) (by omega) (G3 (k:=0) (by simp) (by simpa using hc))
 refine aE (ba (a8 (ai (aw ?_))))
 refine cX (fun(k:Nat) ρ O=>O=dC∧k≤b.aP.length∧iG b.ae (-1) b.start=true∧(b.aP.take k).all (iG b.ae (-1))=true∧cL [(0,(.agg (bf b sb sc eb ec tb tc).toArray)),(1,(.pointer (aD dk))),(3,vI (k:Int))] ρ) (fun k=>b.aP.length-k) 0 ?_ ?_
 ·exact⟨F,aG _,by simpa using hc,F,⟨F,F,F,trivial⟩⟩
 rintro k ρ O ⟨rfl,hk,Ux,kL,hH⟩
 obtain⟨fy,rfl⟩:=hH.elim
 clear hH
 refine ba (bP (bY underlying26 dQ) (ad (bp 0 underlying24) (ad (bV underlying24) (bF cH (aH F (fun hc=>?_) (fun hc=>?_))))))
 ·have qa:k<b.aP.length:=by omega
  obtain⟨rb,rc,g1,s1⟩:=h.rows.get qa
  refine aE (ba (aw (ba ?_)))
  refine e6 [(0,0),(1,0),(2,0),(3,0),(4,0),(5,0),(6,0),(7,2),(8,2)] ?_
  refine am F (bY underlying26 dQ) (am F (bp 0 underlying24) (am F aC (am F (b8 k underlying24 cf F F (bS h.out) (by first|assumption|omega|(simp;omega)|simp_all) (by rw[qw];exact qa)) (am F (eA underlying22 F F h.out g1) (am F (bY underlying26 bt) (am F (bp 0 underlying3) ?_))))))
  have MR:=fun(w1:World) (hI:Inv w dC w1)=>(haveI:=Inv.tab (P:=prog) hI;MB w1 rb rc b.aP[k] b.ae (hI.sl s1) (hB.sr _ (ap qa)))
  refine cG F F (dV Uw (aK MR) ?_)
  clear MR
  rintro vr O' ⟨N,rfl,rfl,rfl⟩
  refine cG F F (iE F F gM ?_)
  refine cl ?_
  refine T.cond F (fun hc=>?_) (fun hc=>?_)
  ·refine ba ?_
   refine aJ (bm ?_)
   refine aM (vI 8) results15 F ?_
   refine⟨[],bj (aX _),av (fun z:Nat=>Value.int .i64 (z:Int)) (Eq.symm (a:=cC b) (b:=8) ?_),F⟩
   exact xI (by omega) (by omega) (by omega) (by omega) (G3 (k:=k+1) (by simp;omega) (by simpa using hc))
  refine aE (aJ (az (bK (b:=1) k F F (by omega)) (ai ?_)))
  exact⟨k+1,by omega,F,by omega,Ux,DY qa kL (by simpa using hc),⟨F,F,F,trivial⟩⟩
 have IP: ¬k<b.aP.length:=by omega
 refine bA ?_
 refine ba (a8 (ai (aw ?_)))
 refine cS (fun(j:Nat) ρ O=>O=dC∧j≤b.ao.length∧kx b.ae b.vars.toNat (b.ao.drop j)=cC b∧cL [(0,(.agg (bf b sb sc eb ec tb tc).toArray)),(1,(.pointer (aD dk))),(3,vI (k:Int)),(4,vI (j:Int))] ρ) (fun j=>b.ao.length-j) 0 ?_ ?_
 ·exact⟨F,aG _,(DZ (by omega) (by omega) (by omega) (by omega) (by rw[List.all_cons,Ux,D0 (by omega) kL];rfl)).symm,⟨F,F,F,F,trivial⟩⟩
 rintro j ρ O ⟨rfl,hj,he,hH⟩
 obtain⟨fy,rfl⟩:=hH.elim
 clear hH
 refine ba (bP (bY underlying26 kQ) (ad (bp 0 underlying23) (ad (bV underlying23) (bF cH (aH F (fun hc=>?_) (fun hc=>?_))))))
 ·have j8:j<b.ao.length:=by omega
  have sf:=hB.pn _ (ap j8)
  let dM:List Value:=[vI b.ao[j].fr,vI b.ao[j].to,v8 (b.ao[j].pos),v8 (b.ao[j].neg)]
  refine aE (ba (aw (aB (bY underlying26 kQ) (ad (bp 0 underlying23) (az (fO (i:=j) underlying23 fm F F (bS h.ed) (by first|assumption|omega|(simp;omega)|simp_all) (by first|(rw[fP];omega)|(simp[fP];omega)|(simp_all[fP];omega))) (ad (mM dM underlying106 F fm F F (eo _) (bS h.ed) (pu (by first|assumption|omega|(simp;omega)|simp_all))) (au (bO fm (fun dI=>?_)))))))))
  refine au (cE dM 0 fm ?_)
  refine bJ (ad (bY underlying106 bt) (ad (bp 0 underlying3) (ad cH ?_)))
  by_cases aaN:b.ao[j].fr<0
  ·refine ad (cm aC aaN) ?_
   refine dt (cP (ad bR (aQ (dj ?_))))
   refine dt (ad bR (aQ (dt (cP (ad bR ?_)))))
   refine TO.nl ?_
   refine cJ ?_
   refine a8 (bm ?_)
   refine aM (vI 8) results15 F ?_
   refine⟨[],bj (aX _),av (fun z:Nat=>Value.int .i64 (z:Int)) (Eq.symm (a:=cC b) (b:=8) ?_),F⟩
   rw[←he];exact nX j8 (by omega)
  refine ad (cD aC aaN) (ax (bY underlying106 bt) (ax (bp 0 underlying3) (ax (bY underlying26 bt) (ax (bp 1 underlying3) (ax ly (ad ca ?_))))))
  by_cases aaO:b.ao[j].fr≥b.ae
  ·refine ad (cm aC aaO) ?_
   refine dt (dj (ad bR (aQ (cP ?_))))
   refine dt (bF bR ?_)
   refine cJ ?_
   refine a8 (bm ?_)
   refine aM (vI 8) results15 F ?_
   refine⟨[],bj (aX _),av (fun z:Nat=>Value.int .i64 (z:Int)) (Eq.symm (a:=cC b) (b:=8) ?_),F⟩
   rw[←he];exact nX j8 (by omega)
  refine ad (cD aC aaO) (ax (bY underlying106 bt) (ax (bp 0 underlying3) (ax cH (ad ca ?_))))
  by_cases aaP:b.ao[j].to<0
  ·refine ad (cm aC aaP) ?_
   refine dt (cP (bF bR ?_))
   refine cJ ?_
   refine a8 (bm ?_)
   refine aM (vI 8) results15 F ?_
   refine⟨[],bj (aX _),av (fun z:Nat=>Value.int .i64 (z:Int)) (Eq.symm (a:=cC b) (b:=8) ?_),F⟩
   rw[←he];exact nX j8 (by omega)
  refine ad (cD aC aaP) (ax (bY underlying106 bt) (ax (bp 0 underlying3) (ax (bY underlying26 bt) (ax (bp 1 underlying3) (ax ly (bF ca (aH F (fun hc=>?_) (fun hc=>?_))))))))
  ·refine ba ?_
   refine aJ (bm ?_)
   refine aM (vI 8) results15 F ?_
   refine⟨[],bj (aX _),av (fun z:Nat=>Value.int .i64 (z:Int)) (Eq.symm (a:=cC b) (b:=8) ?_),F⟩
   rw[←he];exact nX j8 (by omega)
  refine aE (aB (bY underlying106 fS) (ad (bp 0 underlying5) (ad (jj underlying5 underlying3 F (gN ⟨by omega,by omega⟩)) (ad (bY underlying26 bt) (ad (bp 1 underlying3) (ad (jj underlying3 underlying96 F (show IntKind.u64.wrap b.vars=b.vars by unfold IntKind.wrap;simp[IntKind.bits,IntKind.signed];omega)) (ad (uZ (v:=b.vars.toNat) F (by show Value.int _ b.vars=_;rw[bq (by omega)]) (by omega)) (ad ly ?_))))))))
  by_cases aaQ:((b.ao[j].pos:Nat):Int)≥((2^b.vars.toNat:Nat):Int)
  ·refine ad (cm aC aaQ) ?_
   refine cP (cP ?_)
   refine ad bR (aQ (dj (cP (ad bR ?_))))
   refine TO.nl ?_
   refine cJ ?_
   refine a8 (bm ?_)
   refine aM (vI 1) results15 F ?_
   refine⟨[],bj (aX _),av (fun z:Nat=>Value.int .i64 (z:Int)) (Eq.symm (a:=cC b) (b:=1) ?_),F⟩
   rw[←he];exact tL j8 (by omega) (fun q=>by have:=q.1;have:=q.2.1;have:=q.2.2;omega)
  refine ad (cD aC aaQ) (ax (bY underlying106 fS) (ax (bp 0 underlying5) (ax (jj underlying5 underlying3 F (gN ⟨by omega,by omega⟩)) (ax (bY underlying26 bt) (ax (bp 1 underlying3) (ax (jj underlying3 underlying96 F (show IntKind.u64.wrap b.vars=b.vars by unfold IntKind.wrap;simp[IntKind.bits,IntKind.signed];omega)) (ax (uZ (v:=b.vars.toNat) F (by show Value.int _ b.vars=_;rw[bq (by omega)]) (by omega)) ?_)))))))
  refine ax ly (ad ca ?_)
  by_cases aaR:((b.ao[j].neg:Nat):Int)≥((2^b.vars.toNat:Nat):Int)
  ·refine ad (cm aC aaR) ?_
   refine dj (cP (bF bR ?_))
   refine cJ ?_
   refine a8 (bm ?_)
   refine aM (vI 1) results15 F ?_
   refine⟨[],bj (aX _),av (fun z:Nat=>Value.int .i64 (z:Int)) (Eq.symm (a:=cC b) (b:=1) ?_),F⟩
   rw[←he];exact tL j8 (by omega) (fun q=>by have:=q.1;have:=q.2.1;have:=q.2.2;omega)
  refine ad (cD aC aaR) (ax (bY underlying106 fS) (ax (bp 0 underlying5) (ax (bY underlying106 fS) (ax (bp 0 underlying5) (ax (nY (a:=b.ao[j].pos) (b:=b.ao[j].neg) .u8 F F (by show _<256;omega) (by show _<256;omega)) (ax gB (ad ca ?_)))))))
  refine TO.nl (aH F (fun hc=>?_) (fun hc=>?_))
  ·have agb:b.ao[j].pos&&&b.ao[j].neg≠0:=by omega
   refine a8 (bm ?_)
   refine aM (vI 1) results15 F ?_
   refine⟨[],bj (aX _),av (fun z:Nat=>Value.int .i64 (z:Int)) (Eq.symm (a:=cC b) (b:=1) ?_),F⟩
   rw[←he];exact tL j8 (by omega) (fun q=>by have:=q.1;have:=q.2.1;have:=q.2.2;omega)
  have agc: ¬b.ao[j].pos&&&b.ao[j].neg≠0:=by omega
  refine aE (aJ (az (bK (b:=1) j F F (by omega)) (ai ?_)))
  exact⟨j+1,by omega,dC,(aR [1]),F,by omega,by rw[←he,ID j8 (by omega) ⟨by omega,by omega,by omega⟩],⟨F,F,F,F,trivial⟩⟩
 have IE: ¬j<b.ao.length:=by omega
 refine bA ?_
 refine a8 (bm ?_)
 refine aM (vI 0) results15 F ?_
 refine⟨[],bj (aX _),av (fun z:Nat=>Value.int .i64 (z:Int)) (Eq.symm (a:=cC b) (b:=0) ?_),F⟩
 rw[←he,List.drop_eq_nil_of_le (by omega)];rfl
open Go.ChangeShapes Go.WideShapes Go.ChangeAt Go.RowKit Go.Lx _root_.Go.Proofs.Tryz
set_option maxRecDepth 100000
theorem own:ownKnob Tryz.prog.godebug=none:=by kernel_rfl
theorem laidOut:laidOutB prog=true:=by kernel_rfl
theorem RE:Tryz.prog.readableRec 26=true:=by kernel_rfl
theorem agr:26<Tryz.prog.types.size:=of_decide_eq_true (by kernel_rfl)
theorem RF:Tryz.prog.readableRec 29=true:=by kernel_rfl
theorem ags:29<Tryz.prog.types.size:=of_decide_eq_true (by kernel_rfl)
theorem abb {H:Type} {enc:TypeId×Value→H} {W:World} {v:Value} {d:DataW H} {p:List MemPlace} (hw: ∀m∈d.weights prog 26,m≤reachBytes) (h:DataW.Trod enc prog W 0 (fun _=>true) true 26 v d p): ∃b sb eb tb sc ec tc vs,abh prog W v b sb eb tb sc ec tc vs:=
 RH underlying26 (by kernel_rfl) F F F F F F F F F F underlying3 underlying24 underlying22 underlying23 underlying106 underlying5 F F F F F F F F (by kernel_rfl) (by kernel_rfl) (by kernel_rfl) (by kernel_rfl) (by kernel_rfl) (by kernel_rfl) (of_decide_eq_true (by kernel_rfl)) (of_decide_eq_true (by kernel_rfl)) (of_decide_eq_true (by kernel_rfl)) hw h
structure ac4 (W:World) (v:Value) (l:La) (k:LK):Prop where
 val:v=lV l k
 at_:Q4 W l k
 p8: ∀x∈l.pre,x<256
 l8: ∀x∈l.loop,x<256
theorem abc {H:Type} {enc:TypeId×Value→H} {W:World} {v:Value} {d:DataW H} {p:List MemPlace} (hw: ∀m∈d.weights prog 29,m≤reachBytes) (h:DataW.Trod enc prog W 0 (fun _=>true) true 29 v d p): ∃l k,ac4 W v l k:=
 let⟨l,pb,lb,pc,lc,h⟩:=RI underlying29 (by kernel_rfl) F F F F underlying27 underlying5 (by kernel_rfl) (by kernel_rfl) (of_decide_eq_true (by kernel_rfl)) hw h
 ⟨l,⟨pb,pc,lb,lc⟩,h.val,h.at_,h.p8,h.l8⟩
def Ot (cs:Array Value):Obj→Obj
 | .cells _ t frozen=>.cells cs t frozen
 |o=>o
noncomputable def vf (os:Os):World:=
 {World.holding prog os ⟨#[],#[],[]⟩with heap:=((((World.holding prog os ⟨#[],#[],[]⟩).heap.modify 0 (Ot #[.int .u8 0,.int .u8 1,.int .u8 56,.int .u8 2,.int .u8 57,.int .u8 49,.int .u8 28,.int .u8 3,.int .u8 61,.int .u8 58,.int .u8 42,.int .u8 50,.int .u8 38,.int .u8 29,.int .u8 17,.int .u8 4,.int .u8 62,.int .u8 47,.int .u8 59,.int .u8 36,.int .u8 45,.int .u8 43,.int .u8 51,.int .u8 22,.int .u8 53,.int .u8 39,.int .u8 33,.int .u8 30,.int .u8 24,.int .u8 18,.int .u8 12,.int .u8 5,.int .u8 63,.int .u8 55,.int .u8 48,.int .u8 27,.int .u8 60,.int .u8 41,.int .u8 37,.int .u8 16,.int .u8 46,.int .u8 35,.int .u8 44,.int .u8 21,.int .u8 52,.int .u8 32,.int .u8 23,.int .u8 11,.int .u8 54,.int .u8 26,.int .u8 40,.int .u8 15,.int .u8 34,.int .u8 20,.int .u8 31,.int .u8 10,.int .u8 25,.int .u8 14,.int .u8 19,.int .u8 9,.int .u8 13,.int .u8 8,.int .u8 7,.int .u8 6])).modify 1 (Ot #[.int .u64 1,.int .u64 10,.int .u64 100,.int .u64 1000,.int .u64 10000,.int .u64 100000,.int .u64 1000000,.int .u64 10000000,.int .u64 100000000,.int .u64 1000000000,.int .u64 10000000000,.int .u64 100000000000,.int .u64 1000000000000,.int .u64 10000000000000,.int .u64 100000000000000,.int .u64 1000000000000000,.int .u64 10000000000000000,.int .u64 100000000000000000,.int .u64 1000000000000000000,.int .u64 10000000000000000000])).modify 2 (Ot #[.int .u8 0,.int .u8 1,.int .u8 28,.int .u8 2,.int .u8 29,.int .u8 14,.int .u8 24,.int .u8 3,.int .u8 30,.int .u8 22,.int .u8 20,.int .u8 15,.int .u8 25,.int .u8 17,.int .u8 4,.int .u8 8,.int .u8 31,.int .u8 27,.int .u8 13,.int .u8 23,.int .u8 21,.int .u8 19,.int .u8 16,.int .u8 7,.int .u8 26,.int .u8 12,.int .u8 18,.int .u8 6,.int .u8 11,.int .u8 5,.int .u8 10,.int .u8 9]))}
theorem abd {W:World} (hL:laidMetH prog [("math/bits.deBruijn32tab",Rows.laid_math_bits_deBruijn32tab),("math/bits.deBruijn64tab",Rows.laid_math_bits_deBruijn64tab),("internal/strconv.uint64pow10",Rows.laid_internal_strconv_uint64pow10)] W):eT prog W:=by
 have h:laidMet prog [("math/bits.deBruijn32tab",Rows.laid_math_bits_deBruijn32tab),("math/bits.deBruijn64tab",Rows.laid_math_bits_deBruijn64tab),("internal/strconv.uint64pow10",Rows.laid_internal_strconv_uint64pow10)] W:=hL
 obtain⟨ps,h,_⟩:=h
 have hz:=h
 obtain⟨_,h⟩:=ow h
 obtain⟨_,h⟩:=ow h
 obtain⟨_,hz⟩:=ow hz
 exact eT.of (sv (g:=1) (t:=201) (e:=164) (n:=20) (by kernel_rfl) (by kernel_rfl) (by kernel_rfl) underlying201 underlying164 (by kernel_rfl) (by kernel_rfl) h) (.inr (sv (g:=0) (t:=189) (e:=5) (n:=64) (by kernel_rfl) (by kernel_rfl) (by kernel_rfl) underlying189 underlying5 (by kernel_rfl) (by kernel_rfl) hz))
theorem orF (base:World) (x y:Nat) (hx:x<18446744073709551616) (hy:y<18446744073709551616):cZ prog base 108 [.int .u64 ((x:Nat):Int),.int .u64 ((y:Nat):Int)] [] (fun v O'=>v=.int .u64 ((x|||y:Nat):Int)∧O'=[]):=by
 refine aF func108 F ntmps108 F ?_
 refine a8 (ai (bI (az (Rk (a:=x) (b:=y) .u64 F F hx hy) (ai (cF ?_)))))
 refine aM (.int .u64 ((x|||y:Nat):Int)) results108 F ?_
 exact⟨F,F⟩
theorem anF (base:World) [eT prog base] (x y:Nat) (hx:x<18446744073709551616) (hy:y<18446744073709551616):cZ prog base 104 [.int .u64 ((x:Nat):Int),.int .u64 ((y:Nat):Int)] [] (fun v O'=>v=.int .u64 ((x&&&y:Nat):Int)∧O'=[]):=by
 refine aF func104 F ntmps104 F ?_
 refine a8 (ai (bI (az (nY (a:=x) (b:=y) .u64 F F hx hy) (ai (cF ?_)))))
 refine aM (.int .u64 ((x&&&y:Nat):Int)) results104 F ?_
 exact⟨F,F⟩
theorem mnF (base:World) [eT prog base] (x y:Nat) (hx:x<18446744073709551616) (hy:y<18446744073709551616):cZ prog base 107 [.int .u64 ((x:Nat):Int),.int .u64 ((y:Nat):Int)] [] (fun v O'=>v=.int .u64 ((oa x y:Nat):Int)∧O'=[]):=by
 refine aF func107 F ntmps107 F ?_
 refine a8 (ai (bI (az (Hy (a:=x) (b:=y) F F hx hy) (ai (cF ?_)))))
 refine aM (.int .u64 ((oa x y:Nat):Int)) results107 F ?_
 exact⟨F,F⟩
theorem RY (w:World) [eT prog w] (b:Option Addr) (c m:Nat) (h:Sl w b (fe (sR m))):
  cR prog 125 [(.slice b ((sR m).length) c),vN 0] w fun v N=>v=.int .u64 ((m:Nat):Int)∧N=[]:=by
 refine aF func125 F ntmps125 F ?_
 refine a8 (bh (bJ (aQ (az (bV underlying59) (bF cH (aH F (fun hc=>?_) (fun hc=>?_)))))))
 ·have nM:0<(sR m).length:=by omega
  refine bI (az (b8 0 underlying59 jo F F (bS h) (by omega) (by rw[ag];omega)) (ad (eA underlying164 F F h (by rw[qY (fun e=>by rw[kp.2 e]at nM;omega)];rfl)) (ai (cF ?_))))
  refine aM (.int .u64 ((m:Nat):Int)) results125 F ?_
  exact⟨F,F⟩
 have Mz: ¬0<(sR m).length:=by omega
 refine aE (a8 (ai (cF ?_)))
 refine aM (.int .u64 0) results125 F ?_
 exact⟨by have h9:m=0:=kp.1 (by omega);rw[h9];rfl,F⟩
theorem Nw (w:World) [eT prog w] (b:Option Addr) (m c:Nat) (h:m≤c):
  cR prog 126 [.slice b m c] w fun v N=>v=.slice b m m∧N=[]:=by
 refine aF func126 F ntmps126 F ?_
 refine a8 (ai (bI (az (bV underlying59) (az (bV underlying59) (ad (RZ underlying59 jo F F F h) (bm ?_))))))
 refine aM (.slice b m m) results126 F ?_
 exact⟨[],Sub.z,F,F⟩
theorem abP (w:World) [eT prog w] (b1 b2:Option Addr) (c1 c2 m n W:Nat) (h1:Sl w b1 (fe (sR m))) (h2:Sl w b2 (fe (sR n))) (fv:Value) (hg:dS prog w fv [.int .u64 ((m:Nat):Int),.int .u64 ((n:Nat):Int)] [] (fun v O'=>v=.int .u64 ((W:Nat):Int)∧O'=[])) (hl:(sR m).length=1∨(sR n).length=1) (hW:W≠0):
  cR prog 103 [(.slice b1 ((sR m).length) c1),(.slice b2 ((sR n).length) c2),fv] w fun v N=> ∃b9 k9,v=.slice b9 (sR W).length (sR W).length∧N=[ak b9 k9 164 1 (fe (sR W))]:=by
 refine aF func103 F ntmps103 F ?_
 have KA:=nu m;have D6:=nu n
 refine a8 (ai (a8 (ai (a8 (bh (bJ (az (bV underlying59) (az (bV underlying59) ?_))))))))
 refine ad (bH (px (a:=(sR m).length) (b:=(sR n).length) F F) (v':=vI 1) (av (Value.int .i64) (by omega))) (ad (bH (nm (a:=1) (b:=64) F F) (v':=vI 1) F) (aS (aw ?_)))
 refine jc 2 (T.round ?_)
 refine aB (dE cH (b':=true) F) (TO.ns ?_)
 refine cJ ?_
 refine aE (ba (aw (bI (ai (aJ (aQ (dr (dr ?_))))))))
 have EU:=b_ (first:=[]) (args:=[.slice b1 (sR m).length c1,vI 0]) (fU:=[]) Cm (aK (O:=[]) (fun w1 hI=>haveI:=Inv.tab (P:=prog) hI;RY w1 b1 c1 m (hI.sl h1)))
 refine au (et EU F F ?_)
 clear EU
 rintro vr O' ⟨N,rfl,rfl,rfl⟩
 refine aQ (dr ?_)
 have Eg:=b_ (first:=[]) (args:=[.slice b2 (sR n).length c2,vI 0]) (fU:=[]) Cm (aK (O:=[]) (fun w1 hI=>haveI:=Inv.tab (P:=prog) hI;RY w1 b2 c2 n (hI.sl h2)))
 refine au (et Eg F F ?_)
 clear Eg
 rintro vr O' ⟨N,rfl,rfl,rfl⟩
 have Nx:=dS.under (A:=[]) (B:=[]) (O:=[]) hg Sub.rf
 refine au (et Nx F F ?_)
 clear Nx
 rintro vr O' ⟨N,rfl,rfl,rfl⟩
 refine au (dv (v:=.int .u64 ((W:Nat):Int)) underlying59 jo F F F (fun z1=>?_))
 refine au (A0 (l:=1) underlying59 underlying59 jo F F F (by decide) (Src.row (j:=0) F (by simp)) (by simp[fL]) (by omega) (by decide) (by decide) (fun z2 KH=>?_))
 refine ai (aJ (ad (bH (jJ F F (by omega)) (v':=vI 1) F) (aS ?_)))
 let dC:Value:=.int .u64 ((W:Nat):Int)
 refine kI [ak z2 KH 164 1 [dC],aU z1 1 164 1 [dC]] [(0,(.slice b1 ((sR m).length) c1)),(1,(.slice b2 ((sR n).length) c2)),(2,fv),(6,nS),(7,(.func (.func 125) #[] #[])),(8,(.slice z2 1 KH)),(9,vI 0),(10,(.slice b1 ((sR m).length) c1)),(11,vI ((sR m).length:Int)),(12,(.slice b2 ((sR n).length) c2)),(13,vI ((sR n).length:Int)),(14,vI 1),(15,vI 1),(16,vI 1)] F (.of F) (fun fy=>?_)
 refine T.round ?_
 refine aB (dE cH (b':=false) F) (TO.ns (cK ?_))
 refine bA ?_
 refine ba (aw ?_)
 refine jc 1 (T.round ?_)
 refine ba (bP (bV underlying59) (ad (cm fg (by decide)) (aQ (ax aC (ax aC (ax (bV underlying59) (ax (il (a:=1) (b:=1) F F (by omega) (by omega)) (ax (b8 ((1-1)) underlying59 jo F F (bU 0) (by decide) (by simp)) (ax (dR underlying164 F F (bU 0) F) ?_)))))))))
 refine ax (cD en (by omega)) (bF bR (cK ?_))
 refine bA ?_
 refine ba ?_
 refine T.have (φ:=1≤KH) (fun w9 hI=>by have:=rowP.cap (hI.row (i:=0) F);simpa using this) (fun rY=>?_)
 refine aJ (aQ (TO.lc Hz (aK fun w1 hI=>(haveI:=Inv.tab (P:=prog) hI;Nw w1 z2 1 KH rY)) ?_))
 rintro vr O' ⟨N,rfl,rfl,rfl⟩
 refine bm ?_
 refine aM (.slice z2 1 1) results103 F ?_
 rw[qY hW]
 exact⟨[ak z2 KH 164 1 [dC]],(by exact Sub.k .z),_,_,F,F⟩
theorem abQ (w:World) [eT prog w] (b1 b2:Option Addr) (c1 c2 m n W:Nat) (h1:Sl w b1 (fe (sR m))) (h2:Sl w b2 (fe (sR n))) (fv:Value) (hg:dS prog w fv [.int .u64 ((m:Nat):Int),.int .u64 ((n:Nat):Int)] [] (fun v O'=>v=.int .u64 ((W:Nat):Int)∧O'=[])) (hl:(sR m).length=1∨(sR n).length=1) (hW:W=0):
  cR prog 103 [(.slice b1 ((sR m).length) c1),(.slice b2 ((sR n).length) c2),fv] w fun v N=> ∃b9 k9,v=.slice b9 (sR 0).length (sR 0).length∧N=[ak b9 k9 164 1 (fe (sR 0))]:=by
 refine aF func103 F ntmps103 F ?_
 have KA:=nu m;have D6:=nu n
 refine a8 (ai (a8 (ai (a8 (bh (bJ (az (bV underlying59) (az (bV underlying59) ?_))))))))
 refine ad (bH (px (a:=(sR m).length) (b:=(sR n).length) F F) (v':=vI 1) (av (Value.int .i64) (by omega))) (ad (bH (nm (a:=1) (b:=64) F F) (v':=vI 1) F) (aS (aw ?_)))
 refine jc 2 (T.round ?_)
 refine aB (dE cH (b':=true) F) (TO.ns ?_)
 refine cJ ?_
 refine aE (ba (aw (bI (ai (aJ (aQ (dr (dr ?_))))))))
 have EU:=b_ (first:=[]) (args:=[.slice b1 (sR m).length c1,vI 0]) (fU:=[]) Cm (aK (O:=[]) (fun w1 hI=>haveI:=Inv.tab (P:=prog) hI;RY w1 b1 c1 m (hI.sl h1)))
 refine au (et EU F F ?_)
 clear EU
 rintro vr O' ⟨N,rfl,rfl,rfl⟩
 refine aQ (dr ?_)
 have Eg:=b_ (first:=[]) (args:=[.slice b2 (sR n).length c2,vI 0]) (fU:=[]) Cm (aK (O:=[]) (fun w1 hI=>haveI:=Inv.tab (P:=prog) hI;RY w1 b2 c2 n (hI.sl h2)))
 refine au (et Eg F F ?_)
 clear Eg
 rintro vr O' ⟨N,rfl,rfl,rfl⟩
 have Nx:=dS.under (A:=[]) (B:=[]) (O:=[]) hg Sub.rf
 refine au (et Nx F F ?_)
 clear Nx
 rintro vr O' ⟨N,rfl,rfl,rfl⟩
 refine au (dv (v:=.int .u64 ((W:Nat):Int)) underlying59 jo F F F (fun z1=>?_))
 refine au (A0 (l:=1) underlying59 underlying59 jo F F F (by decide) (Src.row (j:=0) F (by simp)) (by simp[fL]) (by omega) (by decide) (by decide) (fun z2 KH=>?_))
 refine ai (aJ (ad (bH (jJ F F (by omega)) (v':=vI 1) F) (aS ?_)))
 let dM:Lx.Item:=aU z1 1 164 1 [.int .u64 ((W:Nat):Int)]
 let eE:Value:=(.slice b1 ((sR m).length) c1)
 let fo:Value:=(.slice b2 ((sR n).length) c2)
 refine kI [ak z2 KH 164 1 [.int .u64 ((W:Nat):Int)],dM] [(0,eE),(1,fo),(2,fv),(6,nS),(7,(.func (.func 125) #[] #[])),(8,(.slice z2 1 KH)),(9,vI 0),(10,eE),(11,vI ((sR m).length:Int)),(12,fo),(13,vI ((sR n).length:Int)),(14,vI 1),(15,vI 1),(16,vI 1)] F (.of F) (fun fy=>?_)
 refine T.round ?_
 refine aB (dE cH (b':=false) F) (TO.ns (cK ?_))
 refine bA ?_
 refine ba (aw ?_)
 refine jc 2 (T.round ?_)
 refine ba (bP (bV underlying59) (ad (cm fg (by decide)) (aQ (ax aC (ax aC (ax (bV underlying59) (ax (il (a:=1) (b:=1) F F (by omega) (by omega)) (ax (b8 ((1-1)) underlying59 jo F F (bU 0) (by decide) (by simp)) (ax (dR underlying164 F F (bU 0) F) ?_)))))))))
 refine ax (cm en (by omega)) (bF bR ?_)
 refine cJ ?_
 refine aE (aw (aJ (aQ (az (bV underlying59) (ad (il (a:=1) (b:=1) F F (by omega) (by omega)) (au (B3 (m:=(1-1)) 0 underlying59 jo F F F (by omega) ?_)))))))
 refine cY (O':=[ak z2 KH 164 1 [],dM]) (by rw[show([.int .u64 ((W:Nat):Int)].take ((1-1)*1):List Value)=[]from F];exact bj (ay _)) ?_
 refine ai ?_
 refine kI [ak z2 KH 164 1 [],dM] [(0,eE),(1,fo),(2,fv),(6,nS),(7,(.func (.func 125) #[] #[])),(8,(.slice z2 (1-1) KH)),(9,vI 0),(10,eE),(11,vI ((sR m).length:Int)),(12,fo),(13,vI ((sR n).length:Int)),(14,vI 1),(15,vI 1),(16,vI 1),(17,.bool false)] F (.of F) (fun fy=>?_)
 refine T.round ?_
 refine ba (bP (bV underlying59) (ad (cD fg (by decide)) (aQ (dj (cP ?_)))))
 refine dt (bF ca (cK ?_))
 refine bA ?_
 refine bI (TO.lc Hz (aK fun w1 hI=>(haveI:=Inv.tab (P:=prog) hI;Nw w1 z2 0 KH (aG _))) ?_)
 rintro vr O' ⟨N,rfl,rfl,rfl⟩
 refine bm ?_
 refine aM (.slice z2 0 0) results103 F ?_
 exact⟨[ak z2 KH 164 1 []],(by exact Sub.k .z),_,_,F,F⟩
theorem abR (w:World) [eT prog w] (b1 b2:Option Addr) (c1 c2 m n W:Nat) (h1:Sl w b1 (fe (sR m))) (h2:Sl w b2 (fe (sR n))) (fv:Value) (hg:dS prog w fv [.int .u64 ((m:Nat):Int),.int .u64 ((n:Nat):Int)] [] (fun v O'=>v=.int .u64 ((W:Nat):Int)∧O'=[])) (hl:(sR m).length=0∧(sR n).length=0):
  cR prog 103 [(.slice b1 ((sR m).length) c1),(.slice b2 ((sR n).length) c2),fv] w fun v N=> ∃b9 k9,v=.slice b9 (sR 0).length (sR 0).length∧N=[ak b9 k9 164 1 (fe (sR 0))]:=by
 refine aF func103 F ntmps103 F ?_
 have KA:=nu m;have D6:=nu n
 refine a8 (ai (a8 (ai (a8 (bh (bJ (az (bV underlying59) (az (bV underlying59) ?_))))))))
 refine ad (bH (px (a:=(sR m).length) (b:=(sR n).length) F F) (v':=vI 0) (av (Value.int .i64) (by omega))) (ad (bH (nm (a:=0) (b:=64) F F) (v':=vI 0) F) (aS (aw ?_)))
 refine jc 1 (T.round ?_)
 refine aB (dE cH (b':=false) F) (TO.ns (cK ?_))
 refine bA ?_
 refine ba (aw ?_)
 refine jc 1 (T.round ?_)
 refine ba (bP (bV underlying59) (ad (cD fg (by decide)) (aQ (dj (cP ?_)))))
 refine dt (bF ca (cK ?_))
 refine bA ?_
 refine ba (T.dH 164 1 ?_)
 refine aJ (aQ (TO.lc Hz (aK fun w1 hI=>(haveI:=Inv.tab (P:=prog) hI;Nw w1 none 0 0 (aG _))) ?_))
 rintro vr O' ⟨N,rfl,rfl,rfl⟩
 refine bm ?_
 refine aM nS results103 F ?_
 exact⟨[ak none 0 164 1 []],(by exact Sub.rf),none,0,F,F⟩
theorem Ny (w:World) [eT prog w] (b1 b2:Option Addr) (c1 c2 m n W:Nat) (h1:Sl w b1 (fe (sR m))) (h2:Sl w b2 (fe (sR n))) (fv:Value) (hg:dS prog w fv [.int .u64 ((m:Nat):Int),.int .u64 ((n:Nat):Int)] [] (fun v O'=>v=.int .u64 ((W:Nat):Int)∧O'=[])) (h0:m=0→n=0→W=0):
  cR prog 103 [(.slice b1 ((sR m).length) c1),(.slice b2 ((sR n).length) c2),fv] w fun v N=> ∃b9 k9,v=.slice b9 (sR W).length (sR W).length∧N=[ak b9 k9 164 1 (fe (sR W))]:=by
 by_cases hz:(sR m).length=0∧(sR n).length=0
 ·have hW:=h0 (kp.1 hz.1) (kp.1 hz.2)
  subst hW
  exact abR w b1 b2 c1 c2 m n 0 h1 h2 fv hg hz
 ·have KA:=nu m;have D6:=nu n
  by_cases hW:W=0
  ·subst hW
   exact abQ w b1 b2 c1 c2 m n 0 h1 h2 fv hg (by omega) F
  ·exact abP w b1 b2 c1 c2 m n W h1 h2 fv hg (by omega) hW
theorem HA (w:World) [eT prog w] (b1 b2:Option Addr) (c1 c2 m n:Nat) (h1:Sl w b1 (fe (sR m))) (l1:m<18446744073709551616) (h2:Sl w b2 (fe (sR n))) (l2:n<18446744073709551616):
  cR prog 75 [(.slice b1 ((sR m).length) c1),(.slice b2 ((sR n).length) c2)] w fun v N=> ∃b9 k9,v=.slice b9 (sR (m|||n)).length (sR (m|||n)).length∧N=[ak b9 k9 164 1 (fe (sR (m|||n)))]:=by
 refine aF func75 F ntmps75 F ?_
 refine a8 (ai (bI (aQ (TO.lc HB (aK fun w1 hI=>(haveI:=Inv.tab (P:=prog) hI;Ny w1 b1 b2 c1 c2 m n (m|||n) (hI.sl h1) (hI.sl h2) (.func (.func 108) #[] #[]) (b_ (first:=[]) (args:=[.int .u64 ((m:Nat):Int),.int .u64 ((n:Nat):Int)]) (fU:=[]) Xi (orF w1 m n l1 l2)) (by rintro rfl rfl;rfl))) ?_))))
 rintro vr O' ⟨N,rfl,zb,zk,rfl,rfl⟩
 refine ai (cF ?_)
 refine aM (.slice zb ((sR (m|||n)).length) ((sR (m|||n)).length)) results75 F ?_
 exact⟨_,_,F,F⟩
theorem HC (w:World) [eT prog w] (b1 b2:Option Addr) (c1 c2 m n:Nat) (h1:Sl w b1 (fe (sR m))) (l1:m<18446744073709551616) (h2:Sl w b2 (fe (sR n))) (l2:n<18446744073709551616):
  cR prog 71 [(.slice b1 ((sR m).length) c1),(.slice b2 ((sR n).length) c2)] w fun v N=> ∃b9 k9,v=.slice b9 (sR (m&&&n)).length (sR (m&&&n)).length∧N=[ak b9 k9 164 1 (fe (sR (m&&&n)))]:=by
 refine aF func71 F ntmps71 F ?_
 refine a8 (ai (bI (aQ (TO.lc HB (aK fun w1 hI=>(haveI:=Inv.tab (P:=prog) hI;Ny w1 b1 b2 c1 c2 m n (m&&&n) (hI.sl h1) (hI.sl h2) (.func (.func 104) #[] #[]) (b_ (first:=[]) (args:=[.int .u64 ((m:Nat):Int),.int .u64 ((n:Nat):Int)]) (fU:=[]) Xj (anF w1 m n l1 l2)) (by rintro rfl rfl;rfl))) ?_))))
 rintro vr O' ⟨N,rfl,zb,zk,rfl,rfl⟩
 refine ai (cF ?_)
 refine aM (.slice zb ((sR (m&&&n)).length) ((sR (m&&&n)).length)) results71 F ?_
 exact⟨_,_,F,F⟩
theorem Xk (w:World) [eT prog w] (b1 b2:Option Addr) (c1 c2 m n:Nat) (h1:Sl w b1 (fe (sR m))) (l1:m<18446744073709551616) (h2:Sl w b2 (fe (sR n))) (l2:n<18446744073709551616):
  cR prog 74 [(.slice b1 ((sR m).length) c1),(.slice b2 ((sR n).length) c2)] w fun v N=> ∃b9 k9,v=.slice b9 (sR (oa m n)).length (sR (oa m n)).length∧N=[ak b9 k9 164 1 (fe (sR (oa m n)))]:=by
 refine aF func74 F ntmps74 F ?_
 refine a8 (ai (bI (aQ (TO.lc HB (aK fun w1 hI=>(haveI:=Inv.tab (P:=prog) hI;Ny w1 b1 b2 c1 c2 m n (oa m n) (hI.sl h1) (hI.sl h2) (.func (.func 107) #[] #[]) (b_ (first:=[]) (args:=[.int .u64 ((m:Nat):Int),.int .u64 ((n:Nat):Int)]) (fU:=[]) Xl (mnF w1 m n l1 l2)) (by rintro rfl rfl;rfl))) ?_))))
 rintro vr O' ⟨N,rfl,zb,zk,rfl,rfl⟩
 refine ai (cF ?_)
 refine aM (.slice zb ((sR (oa m n)).length) ((sR (oa m n)).length)) results74 F ?_
 exact⟨_,_,F,F⟩
theorem HD (w:World) [eT prog w] (b1:Option Addr) (c1 m:Nat) (h1:Sl w b1 (fe (sR m))) (l1:m<18446744073709551616):
  cR prog 105 [(.slice b1 ((sR m).length) c1)] w fun v N=> ∃b9 k9,v=.slice b9 (sR m).length (sR m).length∧N=[ak b9 k9 164 1 (fe (sR m))]:=by
 refine aF func105 F ntmps105 F ?_
 refine a8 (ai (bI (TO.lc Nz (aK fun w1 hI=>(haveI:=Inv.tab (P:=prog) hI;(show cR prog 75 [(.slice b1 ((sR m).length) c1),nS] w1 _ from by have h9:=HA w1 b1 none c1 0 m 0 (hI.sl h1) l1 (Sl.nil _ _) (by decide);rw[Nat.or_zero]at h9;exact h9))) ?_)))
 rintro vr O' ⟨N,rfl,zb,zk,rfl,rfl⟩
 refine ai (cF ?_)
 refine aM (.slice zb ((sR m).length) ((sR m).length)) results105 F ?_
 exact⟨_,_,F,F⟩
theorem I3 (w:World) [eT prog w] (k:Nat) (hk:k<64):
  cR prog 98 [vN k] w fun v N=> ∃b9 k9,v=.slice b9 (sR (2^k)).length (sR (2^k)).length∧N=[ak b9 k9 164 1 (fe (sR (2^k)))]:=by
 refine aF func98 F ntmps98 F ?_
 have hp:=NA hk
 refine a8 (bh (bJ (az (cD cH (by omega)) (aQ (ax aC (ax (cD fg (by omega)) (bF ca ?_)))))))
 refine cK (aE (bP (bH (Ch (a:=k) (b:=64) F F (by decide) (by omega)) (v':=vI 0) (av (Value.int .i64) (by omega))) (ad (bK (b:=1) 0 F F (by omega)) (au (cq 1 underlying59 jo F F (by decide) (by decide) (fun z1=>?_))))))
 refine ai (bI (az (bH (Ch (a:=k) (b:=64) F F (by decide) (by omega)) (v':=vI 0) (av (Value.int .i64) (by omega))) (az (bH (kR (a:=k) (b:=64) F F (by decide)) (v':=vN k) (av (Value.int .i64) (by omega))) (ad (bH (BO (a:=1) (b:=k) .u64 F F (by show k≤64;omega) (by simp only[IntKind.bits,Nat.one_mul];exact hp.2)) (v':=.int .u64 ((2^k:Nat):Int)) (by rw[Nat.one_mul])) (ad (b8 0 underlying59 jo F F (bU 0) (by decide) (by simp)) (au (gw (v:=.int .u64 ((2^k:Nat):Int)) (vs:=[(.int .u64 ((2^k:Nat):Int))]) (cs:=List.replicate 1 (.int .u64 0)) 0 0 jo F F F F F (by simp) F (by simp) ?_)))))))
 refine cY (O':=[aU z1 1 164 1 [.int .u64 ((2^k:Nat):Int)]]) (by rw[show dq (List.replicate 1 (.int .u64 0)) 0 [(.int .u64 ((2^k:Nat):Int))]=[.int .u64 ((2^k:Nat):Int)]from by simp[dq]];exact bj (ay _)) ?_
 refine TO.nl (bI (ai (cF ?_)))
 refine aM (.slice (aD z1) 1 1) results98 F ?_
 have h9:sR (2^k)=[2^k]:=qY (by have:=hp.1;omega)
 rw[h9]
 exact⟨_,_,F,F⟩
theorem abS (w:World) [eT prog w] (b1:Option Addr) (c1 m k:Nat) (h1:Sl w b1 (fe (sR m))) (l1:m<18446744073709551616) (hk:k<64):
  cR prog 65 [(.slice b1 ((sR m).length) c1),vN k] w fun v N=> ∃b9 k9,v=.slice b9 (sR (m|||2^k)).length (sR (m|||2^k)).length∧N=[ak b9 k9 164 1 (fe (sR (m|||2^k)))]:=by
 refine aF func65 F ntmps65 F ?_
 have hp:=NA hk
 refine a8 (ai (bI (aQ (TO.lc U_ (aK fun w1 hI=>(haveI:=Inv.tab (P:=prog) hI;I3 w1 k hk)) ?_))))
 rintro vr O' ⟨N,rfl,kb,kk,rfl,rfl⟩
 refine TO.lc Nz (aK fun w1 hI=>(haveI:=Inv.tab (P:=prog) hI;HA w1 b1 kb c1 (sR (2^k)).length m (2^k) (hI.sl h1) l1 (hI.ga (mG 0)) hp.2)) ?_
 rintro vr O' ⟨N,rfl,zb,zk,rfl,rfl⟩
 refine bm ?_
 refine aM (.slice zb ((sR (m|||2^k)).length) ((sR (m|||2^k)).length)) results65 F ?_
 exact⟨[ak zb zk 164 1 (fe (sR (m|||2^k)))],(by exact Sub.k .z),_,_,F,F⟩
theorem R0 (w:World) [eT prog w] (b1 b2:Option Addr) (c1 c2 m n:Nat) (h1:Sl w b1 (fe (sR m))) (l1:m<18446744073709551616) (h2:Sl w b2 (fe (sR n))) (l2:n<18446744073709551616):
  cR prog 124 [(.slice b1 ((sR m).length) c1),(.slice b2 ((sR n).length) c2)] w fun v N=>v=.bool (decide (m&&&n≠0))∧N=[]:=by
 refine aF func124 F ntmps124 F ?_
 refine a8 (ai (bI (aQ (TO.lc NB (aK fun w1 hI=>(haveI:=Inv.tab (P:=prog) hI;HC w1 b1 b2 c1 c2 m n (hI.sl h1) l1 (hI.sl h2) l2)) ?_))))
 rintro vr O' ⟨N,rfl,zb,zk,rfl,rfl⟩
 refine ad (bV underlying59) (ad fg (bm ?_))
 refine aM (.bool (decide (((sR (m&&&n)).length:Int)>0))) results124 F ?_
 exact⟨[],Sub.z,av Value.bool (decide_eq_decide.2 ⟨fun h9 e9=>by rw[kp.2 e9]at h9;omega,fun h9=>by rw[qY h9];exact Int.one_pos⟩),F⟩
theorem ag0 (w:World) [eT prog w] (b1:Option Addr) (c1 m k:Nat) (h1:Sl w b1 (fe (sR m))) (l1:m<18446744073709551616) (hk:k<64):
  cR prog 102 [(.slice b1 ((sR m).length) c1),vN k] w fun v N=>v=.bool (m.testBit k)∧N=[]:=by
 refine aF func102 F ntmps102 F ?_
 have hp:=NA hk
 refine a8 (ai (bI (aQ (TO.lc U_ (aK fun w1 hI=>(haveI:=Inv.tab (P:=prog) hI;I3 w1 k hk)) ?_))))
 rintro vr O' ⟨N,rfl,kb,kk,rfl,rfl⟩
 refine TO.lc Xm (aK fun w1 hI=>(haveI:=Inv.tab (P:=prog) hI;R0 w1 b1 kb c1 (sR (2^k)).length m (2^k) (hI.sl h1) l1 (hI.ga (mG 0)) hp.2)) ?_
 rintro vr O' ⟨N,rfl,rfl,rfl⟩
 refine bm ?_
 refine aM (.bool (decide (m&&&2^k≠0))) results102 F ?_
 exact⟨[],Sub.z,av Value.bool (by rw[fQ,bo];exact R1),F⟩
open Go.Lx Go.RowKit Go.Shelf _root_.Go.Proofs.Tryz
def adD:Go.Shelf.Ren:=⟨fun|29=>123|n=>n,fun|0=>0|3=>3|4=>4|5=>5|22=>164|25=>96|54=>189|n=>n,fun|1=>0|n=>n⟩
theorem Yy:Go.Proofs.Lays7.n29 prog adD:= {
 mixed:=by kernel_rfl
 f29:=func123.trans (av some (by kernel_rfl))
 t0:=underlying0
 a0:=Tryz.isAgg0
 z0:=Tryz.sizeOf0
 v0:=Tryz.zeroValue0
 i0:=by kernel_rfl
 t3:=underlying3
 a3:=Tryz.isAgg3
 z3:=Tryz.sizeOf3
 v3:=Tryz.zeroValue3
 i3:=by kernel_rfl
 t4:=underlying4
 a4:=Tryz.isAgg4
 z4:=Tryz.sizeOf4
 v4:=Tryz.zeroValue4
 i4:=by kernel_rfl
 t5:=underlying5
 a5:=Tryz.isAgg5
 z5:=Tryz.sizeOf5
 v5:=Tryz.zeroValue5
 i5:=by kernel_rfl
 t22:=underlying164
 a22:=Tryz.isAgg164
 z22:=Tryz.sizeOf164
 v22:=Tryz.zeroValue164
 i22:=by kernel_rfl
 t25:=underlying96
 a25:=Tryz.isAgg96
 z25:=Tryz.sizeOf96
 v25:=Tryz.zeroValue96
 i25:=by kernel_rfl
 t54:=underlying189
 a54:=Tryz.isAgg189
 z54:=Tryz.sizeOf189
 g1:=by kernel_rfl
}
theorem tzC (w:World) [eT prog w] [eT prog w] (x:Nat) (h0:x≠0) (hx:x<18446744073709551616):cR prog 123 [.int .u64 (x:Int)] w fun v N=>v=.int .i64 ((Lib.ctz 64 x:Nat):Int)∧N=[]:=fun w1 M hI=>
 (Any7.bits_TrailingZeros64 Yy x hx w1 (fun _ j hj=>by
  have h:=(Hw (hI.tab (P:=prog)) (by decide)).cell (g:=0) (by kernel_rfl) j (by simpa[A6]using hj)
  rw[show A6.getD j 0=((Lib.deBruijn64tab.getD j 0:Nat):Int) by
   unfold A6;rw[aj,bc,aj,ah hj];rfl]at h
  exact h)).mono (by rintro e w' ⟨rfl,rfl⟩;exact⟨_,[],F,hI,F,F⟩)
theorem abT (w:World) [eT prog w] (x:Nat) (hx:x<1024):
  cR prog 106 [.int .u64 ((x:Nat):Int)] w fun v N=>v=vN (wG x)∧N=[]:=by
 refine aF func106 F ntmps106 F ?_
 have b1:=Xn x;have b2:=Xo (oe x);have b3:=Xp (jV (oe x));have b4:=HE 8 (v7 (jV (oe x)));have b5:=HE 16 (q4 8 (v7 (jV (oe x))));have b6:=HE 32 (q4 16 (q4 8 (v7 (jV (oe x)))))
 have s1:=ox (x) 1
 have s2:=ox (oe x) 2
 have s3:=ox (jV (oe x)) 4
 have s4:=ox (v7 (jV (oe x))) 8
 have s5:=ox (q4 8 (v7 (jV (oe x)))) 16
 have s6:=ox (q4 16 (q4 8 (v7 (jV (oe x))))) 32
 refine a8 (ai (bP (xL (a:=x) (b:=1) .u64 F F (by show _<18446744073709551616;omega) (by show _≤64;omega)) (ad (nY (a:=(x>>>1)) (b:=6148914691236517205) .u64 F F (by show _<18446744073709551616;omega) (by decide)) (az (nY (a:=x) (b:=6148914691236517205) .u64 F F (by show _<18446744073709551616;omega) (by decide)) (ad (bH (vl (a:=((x>>>1)&&&6148914691236517205)) (b:=(x&&&6148914691236517205)) .u64 F F (by show oe x<18446744073709551616;omega)) (v':=.int .u64 ((oe x:Nat):Int)) F) (ai (bP (xL (a:=(oe x)) (b:=2) .u64 F F (by show _<18446744073709551616;omega) (by show _≤64;omega)) (ad (nY (a:=((oe x)>>>2)) (b:=3689348814741910323) .u64 F F (by show _<18446744073709551616;omega) (by decide)) (az (nY (a:=(oe x)) (b:=3689348814741910323) .u64 F F (by show _<18446744073709551616;omega) (by decide)) (ad (bH (vl (a:=(((oe x)>>>2)&&&3689348814741910323)) (b:=((oe x)&&&3689348814741910323)) .u64 F F (by show jV (oe x)<18446744073709551616;omega)) (v':=.int .u64 ((jV (oe x):Nat):Int)) F) (bh ?_)))))))))))
 refine TO.nl (bP (xL (a:=(jV (oe x))) (b:=4) .u64 F F (by show _<18446744073709551616;omega) (by show _≤64;omega)) (az (vl (a:=(jV (oe x))>>>4) (b:=jV (oe x)) .u64 F F (by show _<18446744073709551616;omega)) (ad (bH (nY (a:=((jV (oe x))>>>4)+(jV (oe x))) (b:=1085102592571150095) .u64 F F (by show _<18446744073709551616;omega) (by decide)) (v':=.int .u64 ((v7 (jV (oe x)):Nat):Int)) F) (ai (bI (az (xL (a:=(v7 (jV (oe x)))) (b:=8) .u64 F F (by show _<18446744073709551616;omega) (by show _≤64;omega)) (ad (bH (vl (a:=(v7 (jV (oe x)))) (b:=((v7 (jV (oe x)))>>>8)) .u64 F F (by show q4 8 (v7 (jV (oe x)))<18446744073709551616;omega)) (v':=.int .u64 ((q4 8 (v7 (jV (oe x))):Nat):Int)) F) (ai (bI (az (xL (a:=(q4 8 (v7 (jV (oe x))))) (b:=16) .u64 F F (by show _<18446744073709551616;omega) (by show _≤64;omega)) (ad (bH (vl (a:=(q4 8 (v7 (jV (oe x))))) (b:=((q4 8 (v7 (jV (oe x))))>>>16)) .u64 F F (by show q4 16 (q4 8 (v7 (jV (oe x))))<18446744073709551616;omega)) (v':=.int .u64 ((q4 16 (q4 8 (v7 (jV (oe x)))):Nat):Int)) F) ?_)))))))))))
 refine ai (bI (az (xL (a:=(q4 16 (q4 8 (v7 (jV (oe x)))))) (b:=32) .u64 F F (by show _<18446744073709551616;omega) (by show _≤64;omega)) (ad (bH (vl (a:=(q4 16 (q4 8 (v7 (jV (oe x)))))) (b:=((q4 16 (q4 8 (v7 (jV (oe x)))))>>>32)) .u64 F F (by show q4 32 (q4 16 (q4 8 (v7 (jV (oe x)))))<18446744073709551616;omega)) (v':=.int .u64 ((q4 32 (q4 16 (q4 8 (v7 (jV (oe x))))):Nat):Int)) F) (ai (bP (jj underlying164 underlying3 F (by first|rfl|exact gN ⟨by omega,by omega⟩|exact EJ (by omega)|exact Cg (by omega))) (ad (Xq (a:=(q4 32 (q4 16 (q4 8 (v7 (jV (oe x))))))) (b:=127) F F (by omega) (by decide)) (ai (cF ?_))))))))
 refine aM (vN (wG x)) results106 F ?_
 exact⟨F,F⟩
theorem Xr (w:World) [eT prog w] (b1:Option Addr) (c1 m:Nat) (h1:Sl w b1 (fe (sR m))) (hm:m<1024):
  cR prog 72 [(.slice b1 ((sR m).length) c1)] w fun v N=>v=vN (EV m)∧N=[]:=by
 refine aF func72 F ntmps72 F ?_
 have IZ:=nu m
 refine a8 (bh (bJ (aQ (TO.lc HF (aK fun w1 hI=>(haveI:=Inv.tab (P:=prog) hI;HD w1 b1 c1 m (hI.sl h1) (by omega))) ?_))))
 rintro vr O' ⟨N,rfl,zb,zk,rfl,rfl⟩
 refine ad (bV underlying59) (aS (aw ?_))
 refine cX (fun(i:Nat) ρ O=>O=[ak zb zk 164 1 (fe (sR m))]∧i≤(sR m).length∧cL [(0,(.slice b1 ((sR m).length) c1)),(2,vN (if i=0 then 0 else wG m)),(6,(.slice zb ((sR m).length) ((sR m).length))),(7,vI ((sR m).length:Int)),(8,vN i)] ρ) (fun i=>(sR m).length-i) 0 ?_ ?_
 ·exact⟨F,aG _,(.of F)⟩
 rintro i ρ O ⟨rfl,hi,hH⟩
 obtain⟨fy,rfl⟩:=hH.elim
 clear hH
 refine aB cH (TO.ns (aH F (fun hc=>?_) (fun hc=>?_)))
 ·have j7:i<(sR m).length:=by omega
  refine aE (ba (aw (aB (b8 i underlying59 jo F F (bU 0) j7 (by rw[ag];exact j7)) (ad (dR underlying164 F F (bU 0) (by rw[qY (fun e9=>by rw[kp.2 e9]at j7;omega),show i=0 by omega];rfl)) (ai (aJ (dr (TO.lc Xs (aK fun w1 hI=>(haveI:=Inv.tab (P:=prog) hI;abT w1 m hm)) ?_))))))))
  rintro vr O' ⟨N,rfl,rfl,rfl⟩
  refine ad (bK (b:=(wG m)) ((if i=0 then 0 else wG m)) F F (by have:=R3 m;split<;>omega)) (ai (aJ (ad (bK (b:=1) i F F (by omega)) (aS ?_))))
  have Zv:m≠0:=fun e9=>by rw[kp.2 e9]at j7;omega
  exact⟨i+1,by omega,F,by omega,⟨F,(show Value.int .i64 (((if i=0 then 0 else wG m)+wG m:Nat):Int)=Value.int .i64 ((if i+1=0 then 0 else wG m:Nat):Int) by rw[aA (show i=0 by omega),ar (Nat.succ_ne_zero i),Nat.zero_add]),F,F,F,trivial⟩⟩
 have J5: ¬i<(sR m).length:=by omega
 refine bA ?_
 refine bI (bm ?_)
 refine aM (vN (if i=0 then 0 else wG m)) results72 F ?_
 have r_:i=(sR m).length:=by omega
 exact⟨[],Sub.z,by unfold EV;simp only[r_,kp],F⟩
theorem eqS (w:World) [eT prog w] (b1 b2:Option Addr) (c1 c2 m n:Nat) (h1:Sl w b1 (fe (sR m))) (h2:Sl w b2 (fe (sR n))):
  cR prog 110 [(.slice b1 ((sR m).length) c1),(.slice b2 ((sR n).length) c2)] w fun v N=>v=.bool (decide (m=n))∧N=[]:=by
 refine aF func110 F ntmps110 F ?_
 have Zz:=nu m;have kB:=nu n
 refine a8 (bh (bJ (az (bV underlying59) (az (bV underlying59) (bF gB (aH F (fun hc=>?_) (fun hc=>?_)))))))
 ·have nj:(sR m).length≠(sR n).length:=by omega
  have mC:m≠n:=fun e=>by subst e;omega
  refine a8 (ai (cF ?_))
  refine aM (.bool false) results110 F ?_
  exact⟨av Value.bool (bT mC).symm,F⟩
 have IM: ¬(sR m).length≠(sR n).length:=by omega
 have mB:(sR m).length=(sR n).length:=by omega
 refine aE (ba (bP (bV underlying59) (aS (aw ?_))))
 refine cX (fun(i:Nat) ρ O=>O=[]∧i≤(sR m).length∧(0<i→m=n)∧cL [(0,(.slice b1 ((sR m).length) c1)),(1,(.slice b2 ((sR n).length) c2)),(12,vI ((sR m).length:Int)),(13,vN i)] ρ) (fun i=>(sR m).length-i) 0 ?_ ?_
 ·exact⟨F,aG _,fun h=>absurd h (by decide),⟨F,F,F,F,trivial⟩⟩
 rintro i ρ O ⟨rfl,hi,tG,hH⟩
 obtain⟨fy,rfl⟩:=hH.elim
 clear hH
 refine aB cH (TO.ns (aH F (fun hc=>?_) (fun hc=>?_)))
 ·have AH:i<(sR m).length:=by omega
  have Zv:m≠0:=fun e9=>by rw[kp.2 e9]at AH;omega
  have U0:n≠0:=fun e9=>by rw[kp.2 e9]at mB;omega
  have NC:i=0:=by omega
  refine aE (ba (aw (bI (ai (ba ?_)))))
  refine e6 [(0,0),(1,0),(2,0),(3,0),(4,0),(5,0),(6,0),(7,0),(8,0)] ?_
  refine am F aC (am F aC (am F (b8 i underlying59 jo F F (bS h1) (by omega) (by rw[ag];omega)) (am F (eA underlying164 F F h1 (by rw[qY Zv,NC];rfl)) (am F aC (am F aC (am F (b8 i underlying59 jo F F (bS h2) (by omega) (by rw[ag];omega)) (am F (eA underlying164 F F h2 (by rw[qY U0,NC];rfl)) (am F gB ?_))))))))
  refine cl ?_
  refine aH F (fun hc=>?_) (fun hc=>?_)
  ·have DV:m≠n:=by omega
   refine a8 (ai (cF ?_))
   refine aM (.bool false) results110 F ?_
   exact⟨av Value.bool (bT (by omega)).symm,F⟩
  have DX: ¬m≠n:=by omega
  refine aE (aJ (ad (bK (b:=1) i F F (by omega)) (aS ?_)))
  exact⟨i+1,by omega,F,by omega,fun _=>by omega,⟨F,F,F,F,trivial⟩⟩
 have MQ: ¬i<(sR m).length:=by omega
 refine bA ?_
 refine a8 (ai (cF ?_))
 refine aM (.bool true) results110 F ?_
 exact⟨av Value.bool (bz (by
  by_cases h9:0<i
  ·exact tG h9
  ·have e1:m=0:=kp.1 (by omega)
   have e2:n=0:=kp.1 (by omega)
   rw[e1,e2])).symm,F⟩
theorem ND (w:World) [eT prog w] (b1 b2:Option Addr) (c1 c2 m n:Nat) (h1:Sl w b1 (fe (sR m))) (l1:m<18446744073709551616) (h2:Sl w b2 (fe (sR n))) (l2:n<18446744073709551616):
  cR prog 77 [(.slice b1 ((sR m).length) c1),(.slice b2 ((sR n).length) c2)] w fun v N=>v=.bool (decide (m=n))∧N=[]:=by
 refine aF func77 F ntmps77 F ?_
 refine a8 (ai (bI (TO.lc HF (aK fun w1 hI=>(haveI:=Inv.tab (P:=prog) hI;HD w1 b1 c1 m (hI.sl h1) l1)) ?_)))
 rintro vr O' ⟨N,rfl,y1b,y1k,rfl,rfl⟩
 refine aQ (TO.lc HF (aK fun w1 hI=>(haveI:=Inv.tab (P:=prog) hI;HD w1 b2 c2 n (hI.sl h2) l2)) ?_)
 rintro vr O' ⟨N,rfl,y2b,y2k,rfl,rfl⟩
 refine TO.lc Xt (aK fun w1 hI=>(haveI:=Inv.tab (P:=prog) hI;eqS w1 y1b y2b (sR m).length (sR n).length m n (hI.ga (mG 1)) (hI.ga (mG 0)))) ?_
 rintro vr O' ⟨N,rfl,rfl,rfl⟩
 refine bm ?_
 refine aM (.bool (decide (m=n))) results77 F ?_
 exact⟨[],Sub.z,F,F⟩
theorem ofS (w:World) [eT prog w] (b:Option Addr) (c:Nat) (l:List Nat) (h:Sl w b (bn l)) (hl: ∀q∈l,q<64) (hb:l.length<9223372036854775807):
  cR prog 25 [.slice b l.length c] w fun v N=> ∃b9 k9,v=.slice b9 (sR (lr l)).length (sR (lr l)).length∧N=[ak b9 k9 164 1 (fe (sR (lr l)))]:=by
 refine aF func25 F ntmps25 F ?_
 refine a8 (bh (bJ (az (bV underlying22) (aS (aw (T.dH 164 1 ?_))))))
 refine cS (fun(i:Nat) ρ O=> ∃(sb:Option Addr) (rc:Nat),O=[ak sb rc 164 1 (fe (sR (lr (l.take i))))]∧i≤l.length∧cL [(0,(.slice b l.length c)),(2,(.slice sb ((sR (lr (l.take i))).length) ((sR (lr (l.take i))).length))),(5,(.slice b l.length c)),(6,vI (l.length:Int)),(7,vN i)] ρ) (fun i=>l.length-i) 0 ?_ ?_
 ·exact⟨none,0,F,aG _,(.of F)⟩
 rintro i ρ O ⟨sb,rc,rfl,hi,hH⟩
 obtain⟨fy,rfl⟩:=hH.elim
 clear hH
 have Um:lr (l.take i)<18446744073709551616:=R4 (n:=64) fun q hq=>hl q (List.mem_of_mem_take hq)
 refine aB cH (TO.ns (aH F (fun hc=>?_) (fun hc=>?_)))
 ·have nM:i<l.length:=by omega
  have gf:i<l.length:=by omega
  refine aE (ba (aw (aB (b8 i underlying22 bt F F (bS h) gf (by rw[ag];exact gf)) (ad (eA underlying3 F F h (dK gf)) (ai (aJ (dr (TO.lc abU (aK fun w1 hI=>(haveI:=Inv.tab (P:=prog) hI;abS w1 sb (sR (lr (l.take i))).length (lr (l.take i)) l[i] (hI.ga (mG 0)) Um (hl _ (ap gf)))) ?_))))))))
  rintro vr O' ⟨N,rfl,zb,zk,rfl,rfl⟩
  refine ai (aJ (ad (bK (b:=1) i F F (by omega)) (aS ?_)))
  exact⟨i+1,by omega,[ak zb zk 164 1 (fe (sR (lr (l.take i)|||2^l[i])))],(by exact Sub.k .z),zb,zk,by rw[Ba gf],by omega,⟨F,(by rw[Ba gf];rfl),F,F,F,trivial⟩⟩
 have Mz: ¬i<l.length:=by omega
 refine bA ?_
 refine bI (bm ?_)
 refine aM (.slice sb ((sR (lr (l.take i))).length) ((sR (lr (l.take i))).length)) results25 F ?_
 have r_:l.take i=l:=aN (by omega)
 rw[r_]
 exact⟨_,Sub.rf,sb,rc,F,F⟩
theorem Xu (w:World) [eT prog w] (b:Option Addr) (m:Nat):
  cR prog 101 [(.slice b ((sR m).length) ((sR m).length))] w fun v N=> ∃xb:Nat,v=(.func (.func 122) #[] #[(.pointer (aD xb))])∧N=[oI xb 59 [(.slice b ((sR m).length) ((sR m).length))]]:=by
 refine aF func101 F ntmps101 F ?_
 refine a8 (au (e5 [(.slice b ((sR m).length) ((sR m).length))] (fun dk=>?_)))
 refine ai (aB (dZ) (ai (cF ?_)))
 refine aM (.func (.func 122) #[] #[(.pointer (aD dk))]) results101 F ?_
 exact⟨dk,F,F⟩
theorem Xv (base:World) [eT prog base] [eT prog base] (xb:Nat) (b:Option Addr) (m:Nat) (hb:Sl base b (fe [m])) (hm:m<18446744073709551616) (yv:Value) (J:Nat→List Lx.Item→Prop)
  (hy: ∀(i q:Nat) (O:List Lx.Item),(eO m)[i]? =some q→J i O→dS prog base yv [vN q] O (fun v O'=>v=.bool true∧J (i+1) O'))
  (O:List Lx.Item) (h0:J 0 O):
  cZ prog base 122 [yv,.pointer (aD xb)] ([oI xb 59 [(.slice b 1 1)]]++O) (fun _ O'=>J (eO m).length O'):=by
 refine aF func122 F ntmps122 F ?_
 refine aB (bp 0 underlying59) (ad (bp 0 underlying59) (ad (bV underlying59) (ad (bH (nm (a:=1) (b:=64) F F) (v':=vI 1) F) (ad (jM underlying59 jo F F (by decide)) (ad (bH (bV underlying59) (v':=vI 1) F) (aS (aw ?_)))))))
 refine jc 2 (T.round ?_)
 refine aB (dE cH (b':=true) F) (TO.ns ?_)
 refine cJ ?_
 refine aE (ba (aw (bP (b8 0 underlying59 jo F F (bS hb) (by decide) (by simp)) (ad (eA underlying164 F F hb F) (bh (ai (aw ?_)))))))
 let dC:Value:=(.slice b 1 1)
 let dM:List Lx.Item:=[oI xb 59 [dC]]
 refine cX (fun(u:Nat) ρ O=> ∃(i:Nat) (O1:List Lx.Item),O=(dM++O1)∧R5 m u i∧J i O1∧cL [(0,yv),(1,(.pointer (aD xb))),(3,vI 0),(4,.int .u64 ((u:Nat):Int)),(5,dC),(6,dC),(7,vI (1:Int)),(8,vI 1),(9,dC),(10,vI 1),(11,vI 0)] ρ) (fun u=>u) m ?_ ?_
 ·exact⟨0,O,F,R5.zero m,h0,(.of F)⟩
 rintro u ρ O ⟨i,O1,rfl,hE,hJ,hH⟩
 obtain⟨fy,rfl⟩:=hH.elim
 clear hH
 have D9:=hE.1
 refine ba (bP (bH gB (v':=.bool (decide (u≠0))) (av Value.bool (decide_eq_decide.2 (by omega)))) (TO.nl (aH F (fun hc=>?_) (fun hc=>?_))))
 ·have Mi:u≠0:=hc
  obtain⟨GG,hct,hE2⟩:=hE.at Mi hm
  refine aE (aw (ba (bI (az (jx (a:=64) (b:=0) F F (by omega)) (aQ (TO.lc Xw (aK fun w1 hI=>(haveI:=Inv.tab (P:=prog) hI;tzC w1 u Mi (by omega))) ?_))))))
  rintro vr O' ⟨N,rfl,rfl,rfl⟩
  refine ad (bH (jJ F F (by omega)) (v':=vN (Lib.ctz 64 u)) (av (Value.int .i64) (by omega))) ?_
  have EU:=dS.under (B:=dM) (O:=(dM++O1)) (hy i _ O1 GG hJ) (fq [])
  refine au (et EU F F ?_)
  clear EU
  rintro vr O' ⟨A1,rfl,rfl,Ef⟩
  refine cY (O':=(dM++A1)) (fq []) ?_
  refine bF gM (cK (aE (aJ (aQ (az (GY (a:=u) (b:=1) .u64 F F (by simp only[IntKind.bits];omega) (by omega)) (ad (nY (a:=u) (b:=u-1) .u64 F F (by simp only[IntKind.bits];omega) (by simp only[IntKind.bits];omega)) (ai ?_)))))))
  exact⟨_,Xx Mi,i+1,A1,F,hE2,Ef,(.of F)⟩
 have Mi:u=0:=Classical.not_not.1 hc
 refine bA ?_
 refine aJ (ad (bH (jJ F F (by omega)) (v':=vI 1) F) (aS ?_))
 refine kI (dM++O1) [(0,yv),(1,(.pointer (aD xb))),(3,vI 0),(4,.int .u64 ((u:Nat):Int)),(5,dC),(6,dC),(7,vI (1:Int)),(8,vI 1),(9,dC),(10,vI 1),(11,vI 1)] F (.of F) (fun fy=>?_)
 refine T.round ?_
 refine aB (dE cH (b':=false) F) (TO.ns (cK ?_))
 refine bA ?_
 refine e7 ?_
 refine pk.zero results122 ?_
 have r_:=(Mi▸hE).done
 exact⟨O1,fq dM,by rw[←r_];exact hJ⟩
theorem Xy (base:World) [eT prog base] [eT prog base] (xb:Nat) (b:Option Addr) (yv:Value) (J:Nat→List Lx.Item→Prop)
  (hy: ∀(i q:Nat) (O:List Lx.Item),(eO 0)[i]? =some q→J i O→dS prog base yv [vN q] O (fun v O'=>v=.bool true∧J (i+1) O'))
  (O:List Lx.Item) (h0:J 0 O):
  cZ prog base 122 [yv,.pointer (aD xb)] ([oI xb 59 [(.slice b 0 0)]]++O) (fun _ O'=>J (eO 0).length O'):=by
 refine aF func122 F ntmps122 F ?_
 refine aB (bp 0 underlying59) (ad (bp 0 underlying59) (ad (bV underlying59) (ad (bH (nm (a:=0) (b:=64) F F) (v':=vI 0) F) (ad (jM underlying59 jo F F (by decide)) (ad (bH (bV underlying59) (v':=vI 0) F) (aS (aw ?_)))))))
 refine jc 1 (T.round ?_)
 refine aB (dE cH (b':=false) F) (TO.ns (cK ?_))
 refine bA ?_
 refine e7 ?_
 refine pk.zero results122 ?_
 exact⟨O,fq [oI xb 59 [(.slice b 0 0)]],by rw[show(eO 0).length=0 from F];exact h0⟩
theorem abV (base:World) [eT prog base] [eT prog base] (xb:Nat) (b:Option Addr) (m:Nat) (hb:Sl base b (fe (sR m))) (hm:m<18446744073709551616) (yv:Value) (J:Nat→List Lx.Item→Prop)
  (hy: ∀(i q:Nat) (O:List Lx.Item),(eO m)[i]? =some q→J i O→dS prog base yv [vN q] O (fun v O'=>v=.bool true∧J (i+1) O'))
  (O:List Lx.Item) (h0:J 0 O):
  cZ prog base 122 [yv,.pointer (aD xb)] ([eL xb (.cells (List.toArray [(.slice b ((sR m).length) ((sR m).length))]) 59 (0,0))]++O) (fun _ O'=>J (eO m).length O'):=by
 by_cases h9:m=0
 ·subst h9;exact Xy base xb b yv J hy O h0
 ·rw[qY h9]at hb⊢;exact Xv base xb b m hb hm yv J hy O h0
theorem abW (w:World) [eT prog w] (b:Option Addr) (m:Nat) (hb:Sl w b (fe (sR m))) (hw:m<18446744073709551616):
  cR prog 68 [(.slice b ((sR m).length) ((sR m).length))] w fun v N=> ∃lb lc,v=.slice lb (eO m).length lc∧N=[ak lb lc 3 1 (bn (eO m))]:=by
 refine aF func68 F ntmps68 F ?_
 refine a8 (au (bO cf (fun z1=>?_)))
 refine bJ (aQ (TO.lc Xz (aK fun w1 hI=>(haveI:=Inv.tab (P:=prog) hI;Xu w1 b m)) ?_))
 rintro vr O' ⟨N,rfl,xb,rfl,rfl⟩
 refine TO.nl (aw (T.dH 3 1 ?_))
 let eE:Lx.Item:=ak none 0 3 1 []
 refine cV (O':=[oI xb 59 [(.slice b ((sR m).length) ((sR m).length))],oI z1 22 [nS],eE]) (by exact Sub.dm [eE] _ (.dm [eE] _ (.k .z))) ?_
 refine T.rangeFunc (first:=[]) (fU:=[(.pointer (aD xb))]) F XA (fun yl yq Rh=>?_)
 refine cZ.mono (cZ.sub (O':=oI xb 59 [(.slice b ((sR m).length) ((sR m).length))]::(eL yl (lp yq none)::[oI z1 22 [nS],eE])) (aR [1,0,0,0]) (abV w xb b m hb hw (.func (.yield yl) #[] #[]) (fun i9 O=> ∃(lb:Option Addr) (lc:Nat),O=eL yl (lp yq none)::[oI z1 22 [(.slice lb i9 lc)],ak lb lc 3 1 (bn ((eO m).take i9))]∧i9≤(eO m).length) ?_ _ ?_)) ?_
 ·intro i9 q9 O hq hJ
  obtain⟨lb,lc,rfl,vM⟩:=hJ
  refine dS.yield Rh F F ?_
  have gf:=(List.getElem?_eq_some_iff.1 hq).1
  have ZA:(bn ((eO m).take i9))++[Value.int .i64 ((q9:Nat):Int)]=bn ((eO m).take (i9+1)):=by rw[List.take_add_one,hq];simp
  have jn:(eO m).length≤64:=yx m
  refine aJ (ai (aw (aJ (ad (bp 0 underlying22) (aQ (au (dv (v:=vN q9) underlying22 bt F F F (fun z2=>?_))))))))
  refine au (dp 2 underlying22 underlying22 bt F F F F (by rw[ag,bC];omega) (by decide) (Src.row (j:=0) F (by simp)) (by simp[fL]) (by omega) (by decide) (by decide) (fun z3 Cn=>?_))
  refine au (cE [(.slice z3 (i9+1) Cn)] 1 cf ?_)
  refine cY (O':=[oI z1 22 [(.slice z3 (i9+1) Cn)],ak z3 Cn 3 1 ((bn ((eO m).take i9))++[vN q9])]) (by exact Sub.d (.k (.k .z))) ?_
  refine TO.nl ?_
  exact⟨F,z3,Cn,by rw[ZA],gf⟩
 ·exact⟨none,0,F,aG _⟩
 rintro v O' ⟨lb,lc,rfl,_⟩
 rw[aN (aV _)]
 refine⟨none,_,F,?_⟩
 refine aB (bp 0 underlying22) (au (cE [(.slice lb ((eO m).length) lc)] 0 cf ?_))
 refine l_ ?_
 refine uc (i:=0) results68 underlying22 F F F ?_
 exact⟨[ak lb lc 3 1 (bn (eO m))],(by exact Sub.d (.k .z)),_,_,F,F⟩
theorem NE (w:World) [eT prog w] (n rem qo:Nat) (hn:n<1000):
  cR prog 28 [vN n,vN rem,vN qo] w fun v N=>v=vN (if qo<rem∧qo<n then 2*(n-qo)+2 else if 0<rem∧rem<n then 2*(n-rem)+3 else 1)∧N=[]:=by
 refine aF func28 F ntmps28 F ?_
 refine a8 (ai (ba (aw (bI (az cH ?_)))))
 by_cases MD:((qo:Nat):Int)<((rem:Nat):Int)
 ·refine ad (cm aC MD) ?_
  refine ax aC (ax aC (ax cH (ad bR (ai (aH F (fun hc=>?_) (fun hc=>?_))))))
  ·have qp:qo<n:=by omega
   refine bI (az (il (a:=n) (b:=qo) F F (by omega) (by omega)) (ad (jx (a:=2) (b:=(n-qo)) F F (by omega)) (ad (bK (b:=2) ((2*(n-qo))) F F (by omega)) (ai (cF ?_)))))
   refine aM (vN ((2*(n-qo))+2)) results28 F ?_
   refine⟨av (fun z:Nat=>Value.int .i64 (z:Int)) ?_,F⟩
   (repeat' split)<;>omega
  have RG: ¬qo<n:=by omega
  refine bP fg ?_
  by_cases NF:((rem:Nat):Int)>0
  ·refine ad (cm aC NF) ?_
   refine ax aC (ax aC (ax cH (ad bR (ai (aH F (fun hc=>?_) (fun hc=>?_))))))
   ·have Iy:rem<n:=by omega
    refine bI (az (il (a:=n) (b:=rem) F F (by omega) (by omega)) (ad (jx (a:=2) (b:=(n-rem)) F F (by omega)) (ad (bK (b:=3) ((2*(n-rem))) F F (by omega)) (ai (cF ?_)))))
    refine aM (vN ((2*(n-rem))+3)) results28 F ?_
    refine⟨av (fun z:Nat=>Value.int .i64 (z:Int)) ?_,F⟩
    (repeat' split)<;>omega
   have Iz: ¬rem<n:=by omega
   refine aE (a8 (ai (cF ?_)))
   refine aM (vI 1) results28 F ?_
   refine⟨av (fun z:Nat=>Value.int .i64 (z:Int)) ?_,F⟩
   (repeat' split)<;>omega
  refine ad (cD aC NF) (dt (dj (ad ca (ai (cK (aE (a8 ?_)))))))
  refine ai (cF ?_)
  refine aM (vI 1) results28 F ?_
  refine⟨av (fun z:Nat=>Value.int .i64 (z:Int)) ?_,F⟩
  (repeat' split)<;>omega
 refine ad (cD aC MD) (dt (dj (ad ca (ai (cK (a8 ?_))))))
 refine az fg ?_
 by_cases NF:((rem:Nat):Int)>0
 ·refine ad (cm aC NF) ?_
  refine ax aC (ax aC (ax cH (ad bR (ai (aH F (fun hc=>?_) (fun hc=>?_))))))
  ·have Iy:rem<n:=by omega
   refine bI (az (il (a:=n) (b:=rem) F F (by omega) (by omega)) (ad (jx (a:=2) (b:=(n-rem)) F F (by omega)) (ad (bK (b:=3) ((2*(n-rem))) F F (by omega)) (ai (cF ?_)))))
   refine aM (vN ((2*(n-rem))+3)) results28 F ?_
   refine⟨av (fun z:Nat=>Value.int .i64 (z:Int)) ?_,F⟩
   (repeat' split)<;>omega
  have Iz: ¬rem<n:=by omega
  refine aE (a8 (ai (cF ?_)))
  refine aM (vI 1) results28 F ?_
  refine⟨av (fun z:Nat=>Value.int .i64 (z:Int)) ?_,F⟩
  (repeat' split)<;>omega
 refine ad (cD aC NF) (dt (dj (ad ca (ai (cK (aE (a8 ?_)))))))
 refine ai (cF ?_)
 refine aM (vI 1) results28 F ?_
 refine⟨av (fun z:Nat=>Value.int .i64 (z:Int)) ?_,F⟩
 (repeat' split)<;>omega
theorem LC (n:Nat) (xs:List Int):(xs.any fun x=>decide (x<0∨(n:Int)≤x))=!rq n xs:=by
 induction xs with
 |nil=>rfl
 |cons x xs ih=>
  rw[List.any_cons,ih,show rq n (x::xs)=((decide (0≤x)&&decide (x<(n:Int)))&&rq n xs)from F,Bool.not_and]
  congr 1
  rw[show(!(decide (0≤x)&&decide (x<(n:Int))))=decide (¬(0≤x∧x<(n:Int))) by by_cases a:0≤x<;>by_cases b:x<(n:Int)<;>simp[a,b]<;>omega]
  exact decide_eq_decide.2 (by omega)
theorem adY (base:World) [eT prog base] (n bx:Nat) (x:Int):
  cZ prog base 47 [vI x,.pointer (aD bx)] [oI bx 3 [(vN n)]] (fun z O'=>z=.bool (decide (x<0∨(n:Int)≤x))∧O'=[oI bx 3 [(vN n)]]):=by
 refine aF func47 F ntmps47 F ?_
 refine a8 (ai (bI ?_))
 by_cases h5:x<0
 ·refine ad (cm cH h5) ?_
  refine aQ (dt (dj (ad bR (ai (cF ?_)))))
  refine aM (.bool true) results47 F ?_
  exact⟨av Value.bool (bz (by omega)).symm,F⟩
 refine ad (cD cH h5) (aQ (ax aC (ax (bp 0 underlying3) (ax ly (ad ca (ai (cF ?_)))))))
 refine aM (.bool (decide (x≥((n:Nat):Int)))) results47 F ?_
 exact⟨av Value.bool (decide_eq_decide.2 (by omega)),F⟩
theorem mj (w:World) [eT prog w] (p:dG) (k:DK) (h:p6 w p k) (hB:nT p):
  cR prog 11 [pV p k] w fun v N=>v=vI (b7 p:Int)∧N=[]:=by
 refine aF func11 F ntmps11 F ?_
 have qw:=h.rows.1
 have ZO:=hB.n;have ZP:=hB.f
 refine a8 (au (e5 ((pC p k)) (fun dk=>?_)))
 refine ai (aB (bY underlying34 dQ) (ad (bp 0 underlying24) (ad (bV underlying24) (au (bO bt (fun dI=>?_))))))
 let dC:Value:=(vI (p.next.length:Int))
 refine au (cE [dC] 0 bt ?_)
 refine TO.ns (aw (aB (bY underlying34 bt) (ad (bp 1 underlying3) ?_)))
 by_cases h12:p.vars<0
 ·refine ad (cm cH h12) ?_
  refine aQ (dt (dj (ad bR (ai ?_))))
  refine cJ ?_
  refine a8 (bm ?_)
  refine aM (vI 7) results11 F ?_
  refine⟨[],Sub.z,av (fun z:Nat=>Value.int .i64 (z:Int)) (Eq.symm (a:=b7 p) (b:=7) ?_),F⟩
  unfold b7
  rw[aA (by omega)]
 refine ad (cD cH h12) (aQ (ax (bY underlying34 bt) (ax (bp 1 underlying3) ?_)))
 by_cases Q3:6<p.vars
 ·refine ax (cm fg Q3) ?_
  refine ad ca (ai ?_)
  refine cJ ?_
  refine a8 (bm ?_)
  refine aM (vI 7) results11 F ?_
  refine⟨[],Sub.z,av (fun z:Nat=>Value.int .i64 (z:Int)) (Eq.symm (a:=b7 p) (b:=7) ?_),F⟩
  unfold b7
  rw[aA (by omega)]
 refine ax (cD fg Q3) (ad ca (ai (cK (aB (bp 0 underlying3) (ad en (ai (aH F (fun hc=>?_) (fun hc=>?_))))))))
 ·have adQ:p.next.length=0:=by omega
  refine a8 (bm ?_)
  refine aM (vI 3) results11 F ?_
  refine⟨[],Sub.z,av (fun z:Nat=>Value.int .i64 (z:Int)) (Eq.symm (a:=b7 p) (b:=3) ?_),F⟩
  unfold b7
  rw[ar (by simp;omega),aA (by omega)]
 have adR: ¬p.next.length=0:=by omega
 refine aB (bp 0 underlying3) (ad fg (ai (aH F (fun hc=>?_) (fun hc=>?_))))
 ·have Iy:p.next.length>4096:=by omega
  refine a8 (bm ?_)
  refine aM (vI 10) results11 F ?_
  refine⟨[],Sub.z,av (fun z:Nat=>Value.int .i64 (z:Int)) (Eq.symm (a:=b7 p) (b:=10) ?_),F⟩
  unfold b7
  rw[ar (by simp;omega),ar (by omega),aA (by omega)]
 have Iz: ¬p.next.length>4096:=by omega
 refine aB (bY underlying34 cf) (ad (bp 1 underlying22) (ad (bV underlying22) (ad (bp 0 underlying3) (ad gB (ai (aH F (fun hc=>?_) (fun hc=>?_)))))))
 ·have DV:p.dX.length≠p.next.length:=by omega
  refine a8 (bm ?_)
  refine aM (vI 2) results11 F ?_
  refine⟨[],Sub.z,av (fun z:Nat=>Value.int .i64 (z:Int)) (Eq.symm (a:=b7 p) (b:=2) ?_),F⟩
  unfold b7
  rw[ar (by simp;omega),ar (by omega),ar (by omega),aA (by omega)]
 have DX: ¬p.dX.length≠p.next.length:=by omega
 refine aB (bY underlying34 bt) (ad (bp 1 underlying3) ?_)
 by_cases h33:p.start<0
 ·refine ad (cm cH h33) ?_
  refine aQ (cP (ad bR (ai ?_)))
  refine cJ ?_
  refine a8 (bm ?_)
  refine aM (vI 8) results11 F ?_
  refine⟨[],Sub.z,av (fun z:Nat=>Value.int .i64 (z:Int)) (Eq.symm (a:=b7 p) (b:=8) ?_),F⟩
  unfold b7
  rw[ar (by simp;omega),ar (by omega),ar (by omega),ar (by omega),aA (by omega)]
 refine ad (cD cH h33) (aQ (ax (bY underlying34 bt) (ax (bp 1 underlying3) (ax (bp 0 underlying3) ?_))))
 by_cases h38:(p.next.length:Int)≤p.start
 ·refine ax (cm ly h38) ?_
  refine ad ca (ai ?_)
  refine cJ ?_
  refine a8 (bm ?_)
  refine aM (vI 8) results11 F ?_
  refine⟨[],Sub.z,av (fun z:Nat=>Value.int .i64 (z:Int)) (Eq.symm (a:=b7 p) (b:=8) ?_),F⟩
  unfold b7
  rw[ar (by simp;omega),ar (by omega),ar (by omega),ar (by omega),aA (by omega)]
 refine ax (cD ly h38) (ad ca (ai (cK (aE (ba (aB (bY underlying34 dQ) (ad (bp 1 underlying24) (ad (bV underlying24) (aS (aw ?_))))))))))
 refine cS (fun(s:Nat) ρ O=>O=[oI dI 3 [dC],oI dk 34 (pC p k)]∧s≤p.next.length∧pZ (2^p.vars.toNat) p.next.length (p.next.drop s) (p.dX.drop s)=b7 p∧cL [(0,(pV p k)),(1,(.pointer (aD dk))),(3,(.pointer (aD dI))),(9,.bool false),(18,.bool (decide ((p.next.length:Int)=0))),(21,.bool (decide ((p.next.length:Int)>4096))),(24,.bool (decide ((p.dX.length:Int)≠(p.next.length:Int)))),(30,.bool false),(41,(.slice k.nb p.next.length k.nc)),(42,vI (p.next.length:Int)),(43,vN s)] ρ) (fun s=>p.next.length-s) 0 ?_ ?_
 ·refine⟨F,aG _,?_,(.of F)⟩
  unfold b7
  rw[ar (by simp;omega),ar (by omega),ar (by omega),ar (by omega),ar (by omega)];rfl
 rintro s ρ O ⟨rfl,hs,hr,hH⟩
 obtain⟨fy,rfl⟩:=hH.elim
 clear hH
 refine aB cH (TO.ns (aH F (fun hc=>?_) (fun hc=>?_)))
 ·have Vt:s<p.next.length:=by omega
  have An:s<p.next.length:=by omega
  obtain⟨v1,c1,g1,s1⟩:=h.rows.get An
  have Ao:s<p.dX.length:=by omega
  have zY:=hB.r _ (ap An)
  refine aE (ba (aw (bP (b8 s underlying24 cf F F (bS h.outer) An (qw▸An)) (ad (eA underlying22 F F h.outer g1) (bh (ai (aw (bP (bV underlying22) (ad (bY underlying34 bt) (ad (bp 1 underlying3) (ad (uZ (v:=p.vars.toNat) F (by show Value.int _ p.vars=_;rw[bq (by omega)]) (by omega)) (ad gB (ai (aH F (fun hc=>?_) (fun hc=>?_)))))))))))))))
  ·have Vr:p.next[s].length≠2^p.vars.toNat:=by omega
   refine a8 (bm ?_)
   refine aM (vI 2) results11 F ?_
   refine⟨[],Sub.z,av (fun z:Nat=>Value.int .i64 (z:Int)) (Eq.symm (a:=b7 p) (b:=2) ?_),F⟩
   rw[←hr,pd An (by omega),aA (by omega)]
  have Vs: ¬p.next[s].length≠2^p.vars.toNat:=by omega
  refine bP (dZ) ?_
  have xK:=(by
   have h9:=oo w v1 c1 p.next[s] [oI dI 3 [(vI (p.next.length:Int))],oI dk 34 (pC p k)] (bS s1) (by have:=hB.r _ (ap An);omega) (.func (.func 47) #[] #[.pointer (aD dI)]) (fun x=>decide (x<0∨((p.next.length:Nat):Int)≤x)) (fun x hx=>(dS.under (A:=[oI dI 3 [(vI (p.next.length:Int))]]) (B:=[oI dk 34 (pC p k)]) (b_ (first:=[]) (args:=[vI x]) (fU:=[.pointer (aD dI)]) adb (adY w p.next.length dI x)) (by exact Sub.rf)).mono (fun z O' ⟨A',e1,e2,e3⟩=>⟨e2,by rw[e1,e3];rfl⟩))
   rw[LC]at h9
   exact h9)
  refine TO.lc Mx xK ?_
  clear xK
  rintro vr O' ⟨rfl,rfl⟩
  refine ai (T.cond F (fun hc=>?_) (fun hc=>?_))
  ·have hrn: ¬rq p.next.length p.next[s]=true:=by simpa using hc
   refine a8 (bm ?_)
   refine aM (vI 8) results11 F ?_
   refine⟨[],Sub.z,av (fun z:Nat=>Value.int .i64 (z:Int)) (Eq.symm (a:=b7 p) (b:=8) ?_),F⟩
   rw[←hr,pd An (by omega),ar (by omega),ar hrn]
  have hrk:rq p.next.length p.next[s]=true:=by simpa using hc
  refine aB (bY underlying34 cf) (ad (bp 1 underlying22) (az (b8 s underlying22 bt F F (bS h.dX) Ao (by rw[ag];exact Ao)) (ad (eA underlying3 F F h.dX (eu Ao)) ?_)))
  by_cases h65:p.dX[s]<0
  ·refine ad (cm cH h65) ?_
   refine aQ (dj (cP (ad bR (bh ?_))))
   refine TO.nl ?_
   refine cJ ?_
   refine a8 (bm ?_)
   refine aM (vI 1) results11 F ?_
   refine⟨[],Sub.z,av (fun z:Nat=>Value.int .i64 (z:Int)) (Eq.symm (a:=b7 p) (b:=1) ?_),F⟩
   rw[←hr,pd An (by omega),ar (by omega),aA hrk,ar (fun e=>by have:=nD.1 e;omega)]
  refine ad (cD cH h65) (aQ (ax (bY underlying34 cf) (ax (bp 1 underlying22) (ax aC (ax (b8 s underlying22 bt F F (bS h.dX) Ao (by rw[ag];exact Ao)) (ax (eA underlying3 F F h.dX (eu Ao)) ?_))))))
  by_cases h72:16<p.dX[s]
  ·refine ax (cm fg h72) ?_
   refine ad ca (ai ?_)
   refine cJ ?_
   refine a8 (bm ?_)
   refine aM (vI 1) results11 F ?_
   refine⟨[],Sub.z,av (fun z:Nat=>Value.int .i64 (z:Int)) (Eq.symm (a:=b7 p) (b:=1) ?_),F⟩
   rw[←hr,pd An (by omega),ar (by omega),aA hrk,ar (fun e=>by have:=nD.1 e;omega)]
  refine ax (cD fg h72) (ad ca (ai (cK (aE (aJ (ad (bK (b:=1) s F F (by omega)) (aS ?_)))))))
  exact⟨s+1,by omega,[oI dI 3 [dC],oI dk 34 (pC p k)],(by exact Sub.rf),F,by omega,by rw[←hr,pd An (by omega),ar (by omega),aA hrk,aA (nD.2 (by omega))],(.of F)⟩
 have Vu: ¬s<p.next.length:=by omega
 refine bA ?_
 refine a8 (bm ?_)
 refine aM (vI 0) results11 F ?_
 refine⟨[],Sub.z,av (fun z:Nat=>Value.int .i64 (z:Int)) (Eq.symm (a:=b7 p) (b:=0) ?_),F⟩
 rw[←hr,H4 (by omega)]
theorem vg (w:World) (b:Option Addr) (c:Nat) (xs:List Int) (h:Sl w b (ints xs)) (h0:0<xs.length) (hb:xs.length<9223372036854775807):cR prog 30 [.slice b xs.length c] w fun v N=>(∃m,v=vI m∧m∈xs∧ ∀x∈xs,x≤m)∧N=[]:=by
 refine aF func30 F ntmps30 F ?_
 refine a8 (bh (bJ (az (bV underlying22) (bF cH (aH F (fun hc=>?_) (fun hc=>?_))))))
 ·exact absurd hc (by omega)
 have RG: ¬xs.length<1:=by omega
 refine aE (bP (b8 0 underlying22 bt F F (bS h)) (ad (eA underlying3 F F h eu) (bh (bJ (ai (aw ?_))))))
 refine cX (fun(k:Nat) ρ O=> ∃(m:Int),O=[]∧1≤k∧k≤xs.length∧m∈xs.take k∧(∀x∈xs.take k,x≤m)∧cL [(0,(.slice b xs.length c)),(2,vI 0),(3,vI m),(4,vI (k:Int))] ρ) (fun k=>xs.length-k) 1 ?_ ?_
 ·refine⟨xs[0],F,aV _,h0,?_,?_,⟨F,F,F,F,trivial⟩⟩
  ·show xs[0]∈xs.take (0+1)
   rw[an h0];simp
  ·show∀x∈xs.take (0+1),_
   rw[an h0];simp
 rintro k ρ O ⟨m,rfl,He,hk,hm,kL,hH⟩
 obtain⟨fy,rfl⟩:=hH.elim
 clear hH
 refine ba (bI (az (bV underlying22) (bF cH (aH F (fun hc=>?_) (fun hc=>?_)))))
 ·have Na:k<xs.length:=by omega
  refine aE (ba (aw (aJ (dr (az (b8 k underlying22 bt F F (bS h)) (ad (eA underlying3 F F h eu) (ad (UO F F) (ai (aJ (az (UP F F (by omega)) (ai ?_)))))))))))
  refine⟨k+1,by omega,if xs[k]>m then xs[k]else m,F,by omega,by omega,?_,?_,⟨F,F,F,F,trivial⟩⟩
  ·rw[an Na];split
   ·exact bl _ (List.mem_singleton.2 F)
   ·exact a_ _ hm
  ·rw[an Na]
   intro x hx
   rcases List.mem_append.1 hx with hx|hx
   ·have:=kL x hx;split<;>omega
   ·rw[bM]at hx;subst hx;split<;>omega
 have abe: ¬k<xs.length:=by omega
 refine bA ?_
 refine bI (ai (cF ?_))
 refine aM (vI m) results30 F ?_
 rw[aN (by omega)]at hm kL
 exact⟨⟨m,F,hm,kL⟩,F⟩
theorem PH (w:World) [eT prog w] (p:dG) (k:DK) (h:p6 w p k) (hB:nT p) (l:La) (kl:LK) (hl:Q4 w l kl) (hL:DR l):
  cR prog 18 [pV p k,lV l kl] w fun v N=>v=.tuple #[vN (wP p l),vI (qt p l:Int)]∧N=[]:=by
 refine aF func18 F ntmps18 F ?_
 have qw:=h.rows.1
 have ZO:=hB.n;have ZP:=hB.f
 have xC:=hL.pre;have tJ:=hL.loop
 refine a8 (au (e5 ((pC p k)) (fun z1=>?_)))
 refine au (e5 ((lC l kl)) (fun z2=>?_))
 refine bh (bh (bJ (ad (eg 1 underlying34 cQ) (TO.lc wh (aK fun w1 hI=>(haveI:=Inv.tab (P:=prog) hI;mj w1 p k (hI.wT h) hB)) ?_))))
 rintro vr O' ⟨N,rfl,rfl,rfl⟩
 refine ai (bP gB (TO.nl (aH F (fun hc=>?_) (fun hc=>?_))))
 ·have Iy:b7 p≠0:=by omega
  refine bI (bh (bm ?_))
  refine fJ (vI 0) (vI (b7 p:Int)) results18 F F ?_
  have Nf:qt p l=b7 p:=aA (by omega)
  exact⟨[],Sub.z,by rw[show wP p l=0 from ar (by omega),Nf];rfl,F⟩
 have Iz: ¬b7 p≠0:=by omega
 have hv:cU p:=de.1 (by omega)
 have h6:=hv.wx
 have h4n:=hv.n4
 refine aE (ba (aB (eg 0 underlying29 dD) (ad (bY underlying34 bt) (ad (bp 1 underlying3) (TO.lc Uf (aK fun w1 hI=>(haveI:=Inv.tab (P:=prog) hI;vL w1 l kl.pb kl.lb kl.pc kl.lc (hI.la hl) hL p.vars)) ?_)))))
 rintro vr O' ⟨N,rfl,rfl,rfl⟩
 refine ai (bP gB (TO.nl (aH F (fun hc=>?_) (fun hc=>?_))))
 ·have xD:dA p.vars l≠0:=by omega
  refine bI (bh (bm ?_))
  refine fJ (vI 0) (vI (dA p.vars l:Int)) results18 F F ?_
  have Nf:qt p l=dA p.vars l:=ar (by omega)
  exact⟨[],Sub.z,by rw[show wP p l=0 from ar (by omega),Nf];rfl,F⟩
 have Mt: ¬dA p.vars l≠0:=by omega
 have hV:LaV p.d l:=y5 hv (by omega)
 refine aE (aB (bY underlying34 bt) (ad (bp 1 underlying3) (bh (bJ (ad (bY underlying29 fX) (ad (bp 0 underlying27) (ad (bV underlying27) (aS (aw ?_)))))))))
 refine cS (fun(i:Nat) ρ O=> ∃(s:Nat),O=[oI z2 29 (lC l kl),oI z1 34 (pC p k)]∧i≤l.pre.length∧Lx.runN p.d p.d.start.toNat (l.pre.take i)=s∧cL [(0,(pV p k)),(1,(lV l kl)),(2,(.pointer (aD z1))),(3,(.pointer (aD z2))),(4,vI 0),(5,vI 0),(6,vI (b7 p:Int)),(7,vI (dA p.vars l:Int)),(8,vN s),(33,(.slice kl.pb l.pre.length kl.pc)),(34,vI (l.pre.length:Int)),(35,vN i)] ρ) (fun i=>l.pre.length-i) 0 ?_ ?_
 ·exact⟨p.start.toNat,F,aG _,F,⟨F,F,F,F,F,F,F,F,(av (Value.int .i64) (bq hv.val.s0).symm),F,F,F,trivial⟩⟩
 rintro i ρ O ⟨s,rfl,hi,Ux,hH⟩
 obtain⟨fy,rfl⟩:=hH.elim
 clear hH
 refine aB cH (TO.ns (aH F (fun hc=>?_) (fun hc=>?_)))
 ·have adZ:i<l.pre.length:=by omega
  have kB:s<p.next.length:=by rw[←Ux];exact lU hv.val hv.st _ (hV.pw.take i)
  have gf:i<l.pre.length:=by omega
  have hx8:l.pre[i]<dF p.d:=hV.pw _ (ap gf)
  obtain⟨wS,lM,ru,YH⟩:=hv.to kB hx8
  obtain⟨v1,c1,g1,s1⟩:=h.rows.get kB
  refine aE (ba (aw (aB (b8 i underlying27 fS F F (bS hl.pre)) (ad (eA underlying5 F F hl.pre h_) (ai (aJ (ad (bY underlying34 dQ) (ad (bp 1 underlying24) (az (b8 s underlying24 cf F F (bS h.outer) kB (qw▸kB)) (ad (eA underlying22 F F h.outer g1) (az (b8 (l.pre[i]) underlying22 bt F F (bS s1) lM (by rw[ag];exact lM)) (ad (eA underlying3 F F s1 ru) (ai (aJ (ad (bK (b:=1) i F F (by omega)) (aQ ?_))))))))))))))))
  refine TO.nl ?_
  exact⟨i+1,by omega,[oI z2 29 (lC l kl),oI z1 34 (pC p k)],(by exact Sub.rf),di p.d s l.pre[i],F,by omega,by rw[De gf,Ux],(.of F)⟩
 have ad0: ¬i<l.pre.length:=by omega
 refine bA ?_
 refine a8 (au (io fB fB (fun m3=>?_)))
 refine ai (a8 (ai (aw ?_)))
 have hs0:s=(Lx.runN p.d p.d.start.toNat l.pre):=by rw[←Ux,aN (by omega)]
 have YI:(Lx.runN p.d p.d.start.toNat l.pre)<p.next.length:=lU hv.val hv.st _ hV.pw
 subst hs0
 refine T.dH 3 1 ?_
 refine cS (fun(J:Nat) ρ O=> ∃(ob:Option Addr) (oc s:Nat),O=[ak ob oc 3 1 (ints (p7 p l.loop (Lx.runN p.d p.d.start.toNat l.pre) J)),cM fB fB m3 (PC p.d l.loop (Lx.runN p.d p.d.start.toNat l.pre) J),oI z2 29 (lC l kl),oI z1 34 (pC p k)]∧Dc p.d l.loop (Lx.runN p.d p.d.start.toNat l.pre) J∧gZ p.d l.loop (Lx.runN p.d p.d.start.toNat l.pre) J=s∧cL [(0,(pV p k)),(1,(lV l kl)),(2,(.pointer (aD z1))),(3,(.pointer (aD z2))),(6,vI (b7 p:Int)),(7,vI (dA p.vars l:Int)),(8,vN s),(11,(.map (some m3))),(12,(.slice ob J oc))] ρ) (fun J=>p.next.length-J) 0 ?_ ?_
 ·exact⟨none,0,_,F,Dc.zero _ _ _,F,(.of F)⟩
 rintro J ρ O ⟨ob,oc,s,rfl,hD,ZQ,hH⟩
 obtain⟨fy,rfl⟩:=hH.elim
 clear hH
 obtain⟨fr,RS⟩: ∃o:Option Int,eN ((s:Nat):Int) (PC p.d l.loop (Lx.runN p.d p.d.start.toNat l.pre) J)=o:=⟨_,F⟩
 have hJn:J≤p.next.length:=hD.le hv.val hV.lw YI
 have kB:s<p.next.length:=by rw[←ZQ];exact Dd hv.val hV.lw YI J
 refine aw (ba (a8 ?_))
 refine aQ (az (bH (pL (a:=((s:Nat):Int)) underlying93 bt (fZ.int underlying3) F F (mG 1)) (v':=(.tuple #[vI (fr.getD 0),.bool fr.isSome])) (by rw[RS];cases fr<;>rfl)) (az (bX _) (ad (bX _) (bh (ai (bI (TO.nl (aH (p:=fr.isSome=true) (av Value.bool (by cases fr<;>rfl)) (fun hc=>?_) (fun hc=>?_)))))))))
 ·obtain⟨v9,DC⟩:=Option.isSome_iff_exists.1 hc
  subst DC
  obtain⟨j,hjJ,rfl,hje⟩:=Tz RS
  refine ba ?_
  refine T.have (φ:=(p7 p l.loop (Lx.runN p.d p.d.start.toNat l.pre) J).length≤oc) (fun w9 hI=>by have:=rowP.cap (hI.row (i:=0) F);simpa using this) (fun rY=>?_)
  rw[uN]at rY
  refine aJ (az (bH aC (v':=vN j) F) (ad (n7 (lo:=j) underlying22 bt F F (by omega) (by omega)) ?_))
  refine TO.lc Oj (aK fun w1 hI=>(haveI:=Inv.tab (P:=prog) hI;(by
   have hd9:((p7 p l.loop (Lx.runN p.d p.d.start.toNat l.pre) J).drop j).length=J-j:=by rw[List.length_drop,uN]
   have h9:=vg w1 (pM ob oc j 1) (oc-j) ((p7 p l.loop (Lx.runN p.d p.d.start.toNat l.pre) J).drop j) (zy (hI.ga (mG 0)) j (by rw[uN];exact rY)) (by omega) (by omega)
   rw[hd9]at h9;exact h9))) ?_
  rintro vr O' ⟨N,rfl,⟨m1,rfl,KA,PI⟩,rfl⟩
  refine bh (bm ?_)
  refine fJ (vI m1) (vI 0) results18 F F ?_
  have Uu:=TB hV.l0 hjJ (hje.trans ZQ.symm) KA PI
  exact⟨[],Sub.z,by rw[Uu,show wP p l=mW p l.at from aA (y6.2 ⟨hv,by omega⟩),show qt p l=0 from y6.2 ⟨hv,by omega⟩];rfl,F⟩
 have kK: ∀j,j<J→gZ p.d l.loop (Lx.runN p.d p.d.start.toNat l.pre) j≠gZ p.d l.loop (Lx.runN p.d p.d.start.toNat l.pre) J:=by
  rw[ZQ];exact PF (by rw[RS];cases fr with|none=>rfl|some _=>exact absurd rfl hc)
 refine aE (bI (aQ (az (bV underlying22) (au (oY (a:=((s:Nat):Int)) (v:=((J:Nat):Int)) 1 underlying93 (fZ.int underlying3) F F F F (ZQ▸LD kK) ?_)))))
 refine ko (bh (bJ (ad (bY underlying29 fX) (ad (bp 2 underlying27) (ad (bV underlying27) (aS (aw ?_)))))))
 let dC:Lx.Item:=ak ob oc 3 1 (ints (p7 p l.loop (Lx.runN p.d p.d.start.toNat l.pre) J))
 refine cS (fun(i:Nat) ρ O=> ∃(s2 t2:Nat),O=[dC,cM fB fB m3 ((PC p.d l.loop (Lx.runN p.d p.d.start.toNat l.pre) J)++[(((s:Nat):Int),((J:Nat):Int))]),oI z2 29 (lC l kl),oI z1 34 (pC p k)]∧i≤l.loop.length∧Lx.runN p.d s (l.loop.take i)=s2∧lv p s (l.loop.take i)=t2∧cL [(0,(pV p k)),(1,(lV l kl)),(2,(.pointer (aD z1))),(3,(.pointer (aD z2))),(6,vI (b7 p:Int)),(7,vI (dA p.vars l:Int)),(8,vN s2),(11,(.map (some m3))),(12,(.slice ob J oc)),(13,vI (fr.getD 0)),(14,.bool fr.isSome),(15,vN t2),(65,(.slice kl.lb l.loop.length kl.lc)),(66,vI (l.loop.length:Int)),(67,vN i)] ρ) (fun i=>l.loop.length-i) 0 ?_ ?_
 ·exact⟨s,0,F,aG _,F,F,(.of F)⟩
 rintro i ρ O ⟨s2,t2,rfl,hi,BP,Ye,hH⟩
 obtain⟨fy,rfl⟩:=hH.elim
 clear hH
 refine aB cH (TO.ns (aH F (fun hc=>?_) (fun hc=>?_)))
 ·have akb:i<l.loop.length:=by omega
  have Hd:s2<p.next.length:=by rw[←BP];exact lU hv.val kB _ (hV.lw.take i)
  have gf:i<l.loop.length:=by omega
  have hx8:l.loop[i]<dF p.d:=hV.lw _ (ap gf)
  obtain⟨wS,lM,ru,YH⟩:=hv.to Hd hx8
  obtain⟨v1,c1,g1,s1⟩:=h.rows.get Hd
  have uO:di p.d s2 l.loop[i]<p.dX.length:=by rw[hv.pl];exact wS
  refine aE (ba (aw (aB (b8 i underlying27 fS F F (bS hl.loop)) (ad (eA underlying5 F F hl.loop h_) (ai (aB (bY underlying34 dQ) (ad (bp 3 underlying24) (az (b8 s2 underlying24 cf F F (bS h.outer) Hd (qw▸Hd)) (ad (eA underlying22 F F h.outer g1) (az (b8 (l.loop[i]) underlying22 bt F F (bS s1) lM (by rw[ag];exact lM)) (ad (eA underlying3 F F s1 ru) (ai (aJ (az (bY underlying34 cf) (ad (bp 3 underlying22) (aQ ?_))))))))))))))))
  refine ad (b8 ((di p.d s2 l.loop[i])) underlying22 bt F F (bS h.dX) uO (by rw[ag];exact uO)) (ad (eA underlying3 F F h.dX (by rw[ints,bc,hv.tg wS];rfl)) (ad (px (a:=t2) (b:=(fC p (di p.d s2 l.loop[i]))) F F) (bh ?_)))
  refine TO.nl (aJ (ad (bK (b:=1) i F F (by omega)) (aS ?_)))
  exact⟨i+1,by omega,[dC,cM fB fB m3 ((PC p.d l.loop (Lx.runN p.d p.d.start.toNat l.pre) J)++[(((s:Nat):Int),((J:Nat):Int))]),oI z2 29 (lC l kl),oI z1 34 (pC p k)],(by exact Sub.rf),di p.d s2 l.loop[i],max t2 (fC p (di p.d s2 l.loop[i])),F,by omega,by rw[De gf,BP],by rw[TC gf,Ye,De gf,BP],(.of F)⟩
 have akc: ¬i<l.loop.length:=by omega
 refine bA ?_
 refine aJ (dr (au (dv (v:=vN t2) underlying22 bt F F F (fun z4=>?_))))
 refine au (dp 1 underlying22 underlying22 bt F F F F (by rw[ag,uN,Nat.mul_one]) (by decide) (Src.row (j:=0) F (by simp)) (by simp[fL]) (by omega) (by decide) (by decide) (fun z5 uW=>?_))
 refine ai ?_
 have vM:l.loop.take i=l.loop:=aN (by omega)
 rw[vM]at BP Ye
 have ahX:gZ p.d l.loop (Lx.runN p.d p.d.start.toNat l.pre) (J+1)=s2:=by
  show Lx.runN p.d (gZ p.d l.loop (Lx.runN p.d p.d.start.toNat l.pre) J) l.loop=s2
  rw[ZQ];exact BP
 have hD2:=hD.succ kK
 have Ef:J+1≤p.next.length:=hD2.le hv.val hV.lw YI
 refine⟨J+1,by omega,[ak z5 uW 3 1 ((ints (p7 p l.loop (Lx.runN p.d p.d.start.toNat l.pre) J))++[vN t2]),cM fB fB m3 ((PC p.d l.loop (Lx.runN p.d p.d.start.toNat l.pre) J)++[(((s:Nat):Int),((J:Nat):Int))]),oI z2 29 (lC l kl),oI z1 34 (pC p k)],(by exact Sub.d (.k (.k (.k (.k .z))))),z5,uW,s2,?_,hD2,ahX,(.of F)⟩
 rw[PD,LF,ZQ,Ye];simp only[ints,aL];rfl
noncomputable def DJ (p:dG) (l:La):Bool:=decide (qt p l=0∧wP p l%2=0)
theorem Df (w:World) [eT prog w] (p:dG) (k:DK) (h:p6 w p k) (hB:nT p) (l:La) (kl:LK) (hl:Q4 w l kl) (hL:DR l):
  cR prog 17 [pV p k,lV l kl] w fun v N=>v=.tuple #[.bool (DJ p l),vI (qt p l:Int)]∧N=[]:=by
 refine aF func17 F ntmps17 F ?_
 refine a8 (au (e5 ((pC p k)) (fun dk=>?_)))
 refine au (e5 ((lC l kl)) (fun dI=>?_))
 refine bh (ai (aB (eg 1 underlying34 cQ) (ad (eg 0 underlying29 dD) (TO.lc VD (aK fun w1 hI=>(haveI:=Inv.tab (P:=prog) hI;PH w1 p k (hI.wT h) hB l kl (hI.la hl) hL)) ?_))))
 rintro vr O' ⟨N,rfl,rfl,rfl⟩
 refine az (bX _) (ad (bX _) (bh (ai (bI ?_))))
 by_cases h15:((qt p l:Nat):Int)=0
 ·refine ad (cm en h15) ?_
  refine aQ (ax aC (ax (kR (a:=(wP p l)) (b:=2) F F (by omega)) ?_))
  by_cases h19:((wP p l%2:Nat):Int)=0
  ·refine ax (cm en h19) ?_
   refine ad bR (aQ (bh (bm ?_)))
   refine fJ (.bool true) (vN (qt p l)) results17 F F ?_
   exact⟨[],Sub.z,by rw[show DJ p l=true from bz (by omega)],F⟩
  refine ax (cD en h19) (ad bR (aQ (bh (bm ?_))))
  refine fJ (.bool false) (vN (qt p l)) results17 F F ?_
  exact⟨[],Sub.z,by rw[show DJ p l=false from bT (by omega)],F⟩
 refine ad (cD en h15) (aQ (dt (dj (ad ca (aQ (bh (bm ?_)))))))
 refine fJ (.bool false) (vN (qt p l)) results17 F F ?_
 exact⟨[],Sub.z,by rw[show DJ p l=false from bT (by omega)],F⟩
theorem YJ (base:World) [eT prog base] (p:dG) (k:DK) (h:p6 base p k) (hv:cU p) (OO:List Lx.Item) (fv:Value) (fp:Nat→Int) (hy: ∀s,s<p.next.length→dS prog base fv [vN s] OO (fun v O'=>v=vI (fp s)∧O'=OO)):
  cZ prog base 35 [pV p k,fv] OO (fun v O'=> ∃nb' nc' fb' fc' qs,v=.agg (ri (lD p fp) nb' nc' fb' fc').toArray∧O'=([ak nb' nc' 22 1 (bW qs),ak fb' fc' 3 1 (ints (lD p fp).dX)]++bQ 3 qs)++OO∧nums qs=p.next):=by
 refine aF func35 F ntmps35 F ?_
 have qw:=h.rows.1
 have h6:=hv.wx
 have h4n:=hv.n4
 refine a8 (au (e5 ((pC p k)) (fun z1=>?_)))
 refine au (bO cQ (fun z2=>?_))
 refine TO.nl (aB (bY underlying34 bt) (ad (bp 1 underlying3) (ad (bY underlying34 bt) (ad (bp 1 underlying3) (ad (dy [(vI p.vars),(vI p.start),nS,nS] nz cQ (by kernel_rfl)) (au (bO cQ (fun z3=>?_))))))))
 refine au (cE [(vI p.vars),(vI p.start),nS,nS] 0 cQ ?_)
 refine bJ (ad (bY underlying34 dQ) (ad (bp 2 underlying24) (ad (bV underlying24) (aS (aw (T.dH 22 1 (T.dH 3 1 ?_)))))))
 refine cS (fun(s:Nat) ρ O=> ∃(nb fb:Option Addr) (nc fc:Nat) (qs:List Rec),O=([ak fb fc 3 1 (ints ((List.range s).map fp)),ak nb nc 22 1 (bW qs),oI z3 34 [(vI p.vars),(vI p.start),(.slice nb s nc),(.slice fb s fc)],oI z2 34 [(vI 0),(vI 0),nS,nS],oI z1 34 (pC p k)]++(bQ 3 qs++OO))∧s≤p.next.length∧qs.length=s∧nums qs=p.next.take s∧cL [(0,(pV p k)),(1,fv),(2,(.pointer (aD z1))),(4,(.pointer (aD z2))),(5,(.pointer (aD z3))),(14,(.slice k.nb p.next.length k.nc)),(15,vI (p.next.length:Int)),(16,vN s)] ρ) (fun s=>p.next.length-s) 0 ?_ ?_
 ·exact⟨none,none,0,0,[],F,aG _,F,F,(.of F)⟩
 rintro s ρ O ⟨nb,fb,nc,fc,qs,rfl,hs,tD,pO,hH⟩
 obtain⟨fy,rfl⟩:=hH.elim
 clear hH
 refine aB cH (TO.ns (aH F (fun hc=>?_) (fun hc=>?_)))
 ·have Vi:s<p.next.length:=by omega
  have fM:s<p.next.length:=by omega
  obtain⟨v1,c1,g1,s1⟩:=h.rows.get fM
  have uf:p.next[s].length=dF p.d:=hv.val.len _ (ap fM)
  refine aE (ba (aw (bP (b8 s underlying24 cf F F (bS h.outer) fM (qw▸fM)) (ad (eA underlying22 F F h.outer g1) (bh (ai (ba ?_)))))))
  refine e6 [(0,0),(1,0),(2,0),(3,1),(4,1),(5,2),(6,2),(7,2)] ?_
  refine am F (bY underlying34 dQ) (am F (bp 2 underlying24) (am F aC ?_))
  refine eH F F (dV IH (aK fun w1 hI=>(haveI:=Inv.tab (P:=prog) hI;BV w1 v1 c1 p.next[s] (hI.sl s1) (by omega))) ?_)
  rintro vr O' ⟨N,rfl,cb,cc,rfl,rfl⟩
  refine⟨dx [1,1,1,1,1] [ak cb cc 3 1 (ints p.next[s]),ak fb fc 3 1 (ints ((List.range s).map fp)),ak nb nc 22 1 (bW qs),oI z3 34 [(vI p.vars),(vI p.start),(.slice nb s nc),(.slice fb s fc)],oI z2 34 [(vI 0),(vI 0),nS,nS],oI z1 34 (pC p k)] (bQ 3 qs++OO) F F,?_⟩
  refine eH F F (dv (v:=(.slice cb p.next[s].length cc)) underlying24 cf F F F (fun z4=>⟨dx [2,2,2,2,2] [aU z4 1 22 1 [(.slice cb p.next[s].length cc)],ak cb cc 3 1 (ints p.next[s]),ak fb fc 3 1 (ints ((List.range s).map fp)),ak nb nc 22 1 (bW qs),oI z3 34 [(vI p.vars),(vI p.start),(.slice nb s nc),(.slice fb s fc)],oI z2 34 [(vI 0),(vI 0),nS,nS],oI z1 34 (pC p k)] (bQ 3 qs++OO) F F,?_⟩))
  refine cG F F (dp 3 underlying24 underlying24 cf F F F F (by simp[tD]) (by decide) (Src.row (j:=0) F (by simp)) (by simp[fL]) (by omega) (by decide) (by decide) (fun z5 uW=>?_))
  refine cG F F (iE F F (bY underlying34 dQ) ?_)
  refine cG F F (cE [(.slice z5 (s+1) uW)] 4 dQ ?_)
  refine cl ?_
  refine cV (O':=[aU z4 1 22 1 [(.slice cb p.next[s].length cc)],Rec.jS 3 ⟨cb,cc,p.next[s]⟩,ak fb fc 3 1 (ints ((List.range s).map fp)),ak z5 uW 22 1 ((bW qs)++[(.slice cb p.next[s].length cc)]),oI z3 34 [(vI p.vars),(vI p.start),(.slice z5 (s+1) uW),(.slice fb s fc)],oI z2 34 [(vI 0),(vI 0),nS,nS],oI z1 34 (pC p k)]++(bQ 3 qs++OO)) Sub.rf ?_
  refine cV (O':=[ak fb fc 3 1 (ints ((List.range s).map fp)),ak z5 uW 22 1 (bW (qs++[⟨cb,cc,p.next[s]⟩])),oI z3 34 [(vI p.vars),(vI p.start),(.slice z5 (s+1) uW),(.slice fb s fc)],oI z2 34 [(vI 0),(vI 0),nS,nS],oI z1 34 (pC p k)]++(bQ 3 (qs++[⟨cb,cc,p.next[s]⟩])++OO)) (by rw[show bW (qs++[⟨cb,cc,p.next[s]⟩])=bW qs++[Value.slice cb p.next[s].length cc] by simp[Rec.val]];exact fq [aU z4 1 22 1 [(.slice cb p.next[s].length cc)]]) ?_
  refine e6 [(0,0),(1,0),(2,0),(3,0),(4,1),(5,1),(6,2),(7,2),(8,2)] ?_
  refine am F (bY underlying34 cf) (am F (bp 2 underlying22) (am F aC (am F aC ?_)))
  have ad1:=eY ([ak fb fc 3 1 (ints ((List.range s).map fp)),ak z5 uW 22 1 (bW (qs++[⟨cb,cc,p.next[s]⟩])),oI z3 34 [(vI p.vars),(vI p.start),(.slice z5 (s+1) uW),(.slice fb s fc)],oI z2 34 [(vI 0),(vI 0),nS,nS],oI z1 34 (pC p k)]++bQ 3 (qs++[⟨cb,cc,p.next[s]⟩])) (hy s fM)
  refine eH F F (et ad1 F F ?_)
  clear ad1
  rintro vr O' ⟨rfl,rfl⟩
  refine⟨dx [0,0,0,0,0] [ak fb fc 3 1 (ints ((List.range s).map fp)),ak z5 uW 22 1 (bW (qs++[⟨cb,cc,p.next[s]⟩])),oI z3 34 [(vI p.vars),(vI p.start),(.slice z5 (s+1) uW),(.slice fb s fc)],oI z2 34 [(vI 0),(vI 0),nS,nS],oI z1 34 (pC p k)] (bQ 3 (qs++[⟨cb,cc,p.next[s]⟩])++OO) F F,?_⟩
  refine eH F F (dv (v:=vI (fp s)) underlying22 bt F F F (fun z7=>⟨dx [1,1,1,1,1] [aU z7 1 3 1 [vI (fp s)],ak fb fc 3 1 (ints ((List.range s).map fp)),ak z5 uW 22 1 (bW (qs++[⟨cb,cc,p.next[s]⟩])),oI z3 34 [(vI p.vars),(vI p.start),(.slice z5 (s+1) uW),(.slice fb s fc)],oI z2 34 [(vI 0),(vI 0),nS,nS],oI z1 34 (pC p k)] (bQ 3 (qs++[⟨cb,cc,p.next[s]⟩])++OO) F F,?_⟩))
  refine cG F F (dp 1 underlying22 underlying22 bt F F F F (by simp) (by decide) (Src.row (j:=0) F (by simp)) (by simp[fL]) (by omega) (by decide) (by decide) (fun z8 DG=>?_))
  refine cG F F (iE F F (bY underlying34 cf) ?_)
  refine cG F F (cE [(.slice z8 (s+1) DG)] 3 cf ?_)
  refine cl ?_
  refine aJ (ad (bK (b:=1) s F F (by omega)) (aS ?_))
  refine⟨s+1,by omega,([ak z8 DG 3 1 ((ints ((List.range s).map fp))++[vI (fp s)]),ak z5 uW 22 1 (bW (qs++[⟨cb,cc,p.next[s]⟩])),oI z3 34 [(vI p.vars),(vI p.start),(.slice z5 (s+1) uW),(.slice z8 (s+1) DG)],oI z2 34 [(vI 0),(vI 0),nS,nS],oI z1 34 (pC p k)]++(bQ 3 (qs++[⟨cb,cc,p.next[s]⟩])++OO)),(dx [1,1,1,1,1] [aU z7 1 3 1 [vI (fp s)],ak z8 DG 3 1 ((ints ((List.range s).map fp))++[vI (fp s)]),ak z5 uW 22 1 (bW (qs++[⟨cb,cc,p.next[s]⟩])),oI z3 34 [(vI p.vars),(vI p.start),(.slice z5 (s+1) uW),(.slice z8 (s+1) DG)],oI z2 34 [(vI 0),(vI 0),nS,nS],oI z1 34 (pC p k)] (bQ 3 (qs++[⟨cb,cc,p.next[s]⟩])++OO) F F),z5,z8,uW,DG,qs++[⟨cb,cc,p.next[s]⟩],?_,by omega,by simp[tD],?_,(.of F)⟩
  ·simp[List.range_succ]
  ·rw[an fM,←pO];simp
 have Vj: ¬s<p.next.length:=by omega
 refine bA ?_
 refine aB (eg 2 underlying34 cQ) (au (cE [(vI p.vars),(vI p.start),(.slice nb s nc),(.slice fb s fc)] 3 cQ ?_))
 refine l_ ?_
 refine iX (i:=3) results35 underlying34 F cQ F F F ?_
 have JZ:s=p.next.length:=by omega
 subst JZ
 have L9:((List.range p.next.length).map fp).length=p.next.length:=by simp
 exact⟨([ak nb nc 22 1 (bW qs),ak fb fc 3 1 (ints ((List.range p.next.length).map fp))]++bQ 3 qs)++OO,fq [oI z3 34 [(vI p.vars),(vI p.start),(.slice nb p.next.length nc),(.slice fb p.next.length fc)],oI z2 34 [(vI p.vars),(vI p.start),(.slice nb p.next.length nc),(.slice fb p.next.length fc)],oI z1 34 (pC p k)],nb,nc,fb,fc,qs,by show _=Value.agg #[vI p.vars,vI p.start,.slice nb p.next.length nc,.slice fb ((List.range p.next.length).map fp).length fc];rw[L9];rfl,F,by rw[pO,List.take_length]⟩
theorem Wb (base:World) [eT prog base] [eT prog base] (p:dG) (k:DK) (h:p6 base p k) (hv:cU p) (OO:List Lx.Item) (fv:Value) (fp:Nat→Int) (hy: ∀s,s<p.next.length→dS prog base fv [vN s] OO (fun v O'=>v=vI (fp s)∧O'=OO)):
  cZ prog base 35 [pV p k,fv] OO (fun v O'=> ∃k':DK,v=pV (lD p fp) k'∧O'=pI 22 3 (lD p fp) k'::OO):=
 (YJ base p k h hv OO fv fp hy).EP fun v O' hR=>by
  obtain⟨nb,nc,fb,fc,qs,rfl,rfl,hq⟩:=hR
  exact⟨nums qs=(lD p fp).next,_,OO,hq,F,⟨nb,nc,fb,fc,qs⟩,F,F⟩
theorem coF (base:World) [eT prog base] (p:dG) (k:DK) (h:p6 base p k) (hv:cU p) (bx s:Nat) (hs:s<p.next.length):
  cZ prog base 48 [vN s,.pointer (aD bx)] [oI bx 34 (pC p k)] (fun v O'=>v=vN (fC p s+1)∧O'=[oI bx 34 (pC p k)]):=by
 refine aF func48 F ntmps48 F ?_
 have Hc:s<p.dX.length:=by rw[hv.pl];exact hs
 have hp9:=hv.wR s
 refine a8 (ai (aB (bY underlying34 cf) (ad (bp 0 underlying22) (az (b8 s underlying22 bt F F (bS h.dX) Hc (by rw[ag];exact Hc)) ?_))))
 refine ad (eA underlying3 F F h.dX (by rw[ints,bc,hv.tg hs];rfl)) (ad (bK (b:=1) ((fC p s)) F F (by omega)) (bh ?_))
 refine RR ?_
 refine aM (vN ((fC p s)+1)) results48 F ?_
 exact⟨F,F⟩
theorem Vw (w:World) [eT prog w] (p:dG) (k:DK) (h:p6 w p k) (hB:nT p):
  cR prog 12 [pV p k] w fun v N=> ∃k9:DK,v=.tuple #[pV (xf p) k9,vI (wJ p:Int)]∧N=[pI 22 3 (xf p) k9]:=by
 refine aF func12 F ntmps12 F ?_
 have ZO:=hB.n;have ZP:=hB.f
 obtain⟨M,hM⟩: ∃m,lD p (fun s=>((fC p s+1:Nat):Int))=m:=⟨_,F⟩
 refine a8 (au (e5 ((pC p k)) (fun dk=>?_)))
 refine au (bO cQ (fun dI=>?_))
 refine bh (bJ (ad (eg 1 underlying34 cQ) (TO.lc wh (aK fun w1 hI=>(haveI:=Inv.tab (P:=prog) hI;mj w1 p k (hI.wT h) hB)) ?_)))
 rintro vr O' ⟨N,rfl,rfl,rfl⟩
 refine ai (bP gB (TO.nl (aH F (fun hc=>?_) (fun hc=>?_))))
 ·have nM:b7 p≠0:=by omega
  refine ba ?_
  refine zz 22 3 ?_
  refine aJ (ad (dy _ nz cQ F) (aQ (au (cE [(vI 0),(vI 0),nS,nS] 1 cQ ?_))))
  refine bm ?_
  refine dT (vI (b7 p:Int)) (i:=1) results12 underlying34 F cQ F F F F ?_
  obtain⟨e1,e2⟩:=TD (by omega)
  rw[e1,e2]
  exact⟨[pI 22 3 JC UM],(by exact Sub.k .z),UM,F,F⟩
 have Mz: ¬b7 p≠0:=by omega
 have wY:b7 p=0:=by omega
 have hv:cU p:=de.1 wY
 refine aE (ba (aB (bY underlying34 cf) (ad (bp 1 underlying22) (TO.lc Oj (aK fun w1 hI=>(haveI:=Inv.tab (P:=prog) hI;vg w1 k.fb k.fc p.dX (hI.sl h.dX) (by rw[hv.pl];exact hv.val.n0) (by omega))) ?_))))
 rintro vr O' ⟨N,rfl,⟨m1,rfl,KA,PI⟩,rfl⟩
 refine bF en (aH (p:=m1=16) F (fun hc=>?_) (fun hc=>?_))
 ·have Q3:(16:Int)∈p.dX:=hc▸KA
  refine ba ?_
  refine zz 22 3 ?_
  refine aJ (ad (dy _ nz cQ F) (au (cE [(vI 0),(vI 0),nS,nS] 1 cQ ?_)))
  refine bm ?_
  refine dT (vI 4) (i:=1) results12 underlying34 F cQ F F F F ?_
  obtain⟨e1,e2⟩:=PG wY Q3
  rw[e1,e2]
  exact⟨[pI 22 3 JC UM],(by exact Sub.k .z),UM,F,F⟩
 have Q3:(16:Int)∉p.dX:=fun g=>hc (by have:=PI _ g;have:=(hv.pr _ KA).2;omega)
 refine aE (aB (eg 1 underlying34 cQ) (ad (dZ) ?_))
 have ad2:=cZ.under (A:=[oI dk 34 (pC p k)]) (B:=[oI dI 34 [(vI 0),(vI 0),nS,nS]]) (O:=[oI dI 34 [(vI 0),(vI 0),nS,nS],oI dk 34 (pC p k)]) (show cZ _ _ _ _ _ _ from by
   have h9:=Wb w p k h hv [oI dk 34 (pC p k)] (.func (.func 48) #[] #[.pointer (aD dk)]) (fun s=>((fC p s+1:Nat):Int)) (fun s hs=>b_ (first:=[]) (args:=[vN s]) (fU:=[.pointer (aD dk)]) ade (coF w p k h hv dk s hs))
   rw[hM]at h9
   exact h9) (by exact Sub.dm [oI dI 34 [(vI 0),(vI 0),nS,nS]] _ (.k .z))
 refine TO.lc VI ad2 ?_
 clear ad2
 rintro vr O' ⟨A1,rfl,k1,rfl,rfl⟩
 refine au (cE ((pC M k1)) 2 cQ ?_)
 refine bm ?_
 refine dT (vI 0) (i:=2) results12 underlying34 F cQ F F F F ?_
 obtain⟨e1,e2⟩:=YG wY Q3
 rw[e1,e2,hM]
 exact⟨[pI 22 3 M k1],(by exact Sub.k .z),k1,F,F⟩
theorem ahY (w:World) [eT prog w] (p:dG) (k:DK) (h:p6 w p k) (hB:nT p) (l:La) (kl:LK) (hl:Q4 w l kl) (hL:DR l) (hb:DJ p l=true):
  cR prog 13 [pV p k,lV l kl] w fun v N=>v=.bool true∧N=[]:=by
 refine aF func13 F ntmps13 F ?_
 refine a8 (au (e5 ((pC p k)) (fun dk=>?_)))
 refine au (e5 ((lC l kl)) (fun dI=>?_))
 refine ai (aB (eg 1 underlying34 cQ) (ad (eg 0 underlying29 dD) ?_))
 refine TO.lc Jm (aK fun w1 hI=>(haveI:=Inv.tab (P:=prog) hI;(show cR _ _ _ _ _ from by
   have h9:=Df w1 p k (hI.wT h) hB l kl (hI.la hl) hL
   rw[hb,show qt p l=0 from(of_decide_eq_true hb).1]at h9
   exact h9))) ?_
 rintro vr O' ⟨N,rfl,rfl,rfl⟩
 refine az (bX _) (ad (bX _) (bh (ai (bI (aQ (ax aC (ax en (ad bR (bm ?_)))))))))
 refine aM (.bool (decide (0=0))) results13 F ?_
 exact⟨[],Sub.z,F,F⟩
theorem ahZ (w:World) [eT prog w] (p:dG) (k:DK) (h:p6 w p k) (hB:nT p) (l:La) (kl:LK) (hl:Q4 w l kl) (hL:DR l) (hb:DJ p l=false):
  cR prog 13 [pV p k,lV l kl] w fun v N=>v=.bool false∧N=[]:=by
 refine aF func13 F ntmps13 F ?_
 refine a8 (au (e5 ((pC p k)) (fun dk=>?_)))
 refine au (e5 ((lC l kl)) (fun dI=>?_))
 refine ai (aB (eg 1 underlying34 cQ) (ad (eg 0 underlying29 dD) ?_))
 refine TO.lc Jm (aK fun w1 hI=>(haveI:=Inv.tab (P:=prog) hI;(show cR _ _ _ _ _ from by
   have h9:=Df w1 p k (hI.wT h) hB l kl (hI.la hl) hL
   rw[hb]at h9
   exact h9))) ?_
 rintro vr O' ⟨N,rfl,rfl,rfl⟩
 refine az (bX _) (ad (bX _) (bh (ai (bI (aQ (dj (ad ca (bm ?_))))))))
 refine aM (.bool false) results13 F ?_
 exact⟨[],Sub.z,F,F⟩
theorem SP (w:World) [eT prog w] (p:dG) (k:DK) (h:p6 w p k) (hB:nT p) (l:La) (kl:LK) (hl:Q4 w l kl) (hL:DR l):
  cR prog 13 [pV p k,lV l kl] w fun v N=>v=.bool (DJ p l)∧N=[]:=by
 cases hb:DJ p l
 ·exact ahZ w p k h hB l kl hl hL hb
 ·exact ahY w p k h hB l kl hl hL hb
theorem Vg (w:World) [eT prog w] (b:Option Addr) (c:Nat) (l:List Int):
  cR prog 80 [.slice b l.length c] w fun v N=> ∃xb:Nat,v=(.func (.func 113) #[] #[(.pointer (aD xb))])∧N=[oI xb 22 [(.slice b l.length c)]]:=by
 refine aF func80 F ntmps80 F ?_
 refine a8 (au (e5 [(.slice b l.length c)] (fun dk=>?_)))
 refine ai (aB (dZ) (ai (cF ?_)))
 refine aM (.func (.func 113) #[] #[(.pointer (aD dk))]) results80 F ?_
 exact⟨dk,F,F⟩
theorem ad_ (base:World) [eT prog base] (xb c:Nat) (b:Option Addr) (l:List Int) (hb:Sl base b (ints l)) (tJ:l.length<1000000) (yv:Value) (J:Nat→List Lx.Item→Prop)
  (hy: ∀(i:Nat) (q:Int) (O:List Lx.Item),l[i]? =some q→J i O→dS prog base yv [vI q] O (fun v O'=>v=.bool true∧J (i+1) O'))
  (O:List Lx.Item) (h0:J 0 O):
  cZ prog base 113 [yv,.pointer (aD xb)] ([oI xb 22 [(.slice b l.length c)]]++O) (fun _ O'=>J l.length O'):=by
 refine aF func113 F ntmps113 F ?_
 refine aB (bp 0 underlying22) (ad (bV underlying22) (aS (aw ?_)))
 refine cX (fun(i:Nat) ρ O=> ∃(O1:List Lx.Item),O=([oI xb 22 [(.slice b l.length c)]]++O1)∧i≤l.length∧J i O1∧cL [(0,yv),(1,(.pointer (aD xb))),(5,(.slice b l.length c)),(6,vI (l.length:Int)),(7,vN i)] ρ) (fun i=>l.length-i) 0 ?_ ?_
 ·exact⟨O,F,aG _,h0,(.of F)⟩
 rintro i ρ O ⟨O1,rfl,hi,hJ,hH⟩
 obtain⟨fy,rfl⟩:=hH.elim
 clear hH
 refine aB cH (TO.ns (aH F (fun hc=>?_) (fun hc=>?_)))
 ·have nM:i<l.length:=by omega
  have gf:i<l.length:=by omega
  obtain⟨q,hiq⟩: ∃q,l[i]? =some q:=⟨_,ah gf⟩
  have XT:(ints l)[i]? =some (vI q):=by rw[bc,hiq];rfl
  refine aE (ba (aw (aB (b8 i underlying22 bt F F (bS hb) gf (by rw[ag];exact gf)) (ad (eA underlying3 F F hb XT) (ai (bI (aQ ?_)))))))
  have N0:=dS.under (B:=[oI xb 22 [(.slice b l.length c)]]) (O:=([oI xb 22 [(.slice b l.length c)]]++O1)) (hy i q O1 hiq hJ) (fq [])
  refine au (et N0 F F ?_)
  clear N0
  rintro vr O' ⟨A1,rfl,rfl,Ef⟩
  refine cY (O':=([oI xb 22 [(.slice b l.length c)]]++A1)) (fq []) ?_
  refine bF gM (cK (aE (aJ (ad (bK (b:=1) i F F (by omega)) (aS ?_)))))
  exact⟨i+1,by omega,A1,F,by omega,Ef,(.of F)⟩
 have Mz: ¬i<l.length:=by omega
 refine bA ?_
 refine e7 ?_
 refine pk.zero results113 ?_
 have r_:i=l.length:=by omega
 exact⟨O1,fq [oI xb 22 [(.slice b l.length c)]],by rw[←r_];exact hJ⟩
theorem P1 (w:World) [eT prog w] (b:Option Addr) (c:Nat) (l:List Nat) (h:Sl w b (bn l)) (hb:l.length<1000000) (v:Nat) (hm:v∈l):
  cR prog 83 [.slice b l.length c,vN v] w fun r N=>(∃i,∃hi:i<l.length,l[i]=v∧v∉l.take i∧r=vN i)∧N=[]:=by
 refine aF func83 F ntmps83 F ?_
 refine a8 (bh (bJ (az (bV underlying22) (aS (aw ?_)))))
 refine cX (fun(i:Nat) ρ O=>O=[]∧i≤l.length∧v∉l.take i∧cL [(0,(.slice b l.length c)),(1,vN v),(7,vI (l.length:Int)),(8,vN i)] ρ) (fun i=>l.length-i) 0 ?_ ?_
 ·exact⟨F,aG _,by simp,⟨F,F,F,F,trivial⟩⟩
 rintro i ρ O ⟨rfl,hi,kK,hH⟩
 obtain⟨fy,rfl⟩:=hH.elim
 clear hH
 refine aB cH (TO.ns (aH F (fun hc=>?_) (fun hc=>?_)))
 ·have j7:i<l.length:=by omega
  have gf:i<l.length:=by omega
  refine aE (ba (aw (bI (ai (bI (aQ (az (b8 i underlying22 bt F F (bS h)) (ad (eA underlying3 F F h dK) (bF en (aH F (fun hc=>?_) (fun hc=>?_)))))))))))
  ·have IF:v=l[i]:=by omega
   refine bI (bm ?_)
   refine aM (vN i) results83 F ?_
   exact⟨[],Sub.z,⟨i,gf,by omega,kK,F⟩,F⟩
  have IG: ¬v=l[i]:=by omega
  refine aE (aJ (ad (bK (b:=1) i F F (by omega)) (aS ?_)))
  refine⟨i+1,by omega,F,by omega,?_,⟨F,F,F,F,trivial⟩⟩
  rw[an gf]
  simp only[cI,bM,not_or]
  exact⟨kK,fun e=>by omega⟩
 have J5: ¬i<l.length:=by omega
 refine bA ?_
 refine a8 (bm ?_)
 refine aM (vI (-1)) results83 F ?_
 rw[aN (by omega)]at kK
 exact absurd hm kK
theorem ofC (w:World) [eT prog w] (p:dG) (k:DK):
  cR prog 31 [pV p k] w fun v N=> ∃gx:Nat,v=.agg #[vN p.next.length,(.func (.func 81) #[] #[(.pointer (aD gx))])]∧N=[oI gx 34 (pC p k)]:=by
 refine aF func31 F ntmps31 F ?_
 refine a8 (au (e5 ((pC p k)) (fun dk=>?_)))
 refine au (bO yK (fun dI=>?_))
 let dC:List Value:=[vI (p.next.length:Int),(.func (.func 81) #[] #[(.pointer (aD dk))])]
 refine TO.nl (aB (bY underlying34 dQ) (ad (bp 1 underlying24) (ad (bV underlying24) (ad (dZ) (ad (dy dC X7 yK (by kernel_rfl)) (au (cE dC 0 yK ?_)))))))
 refine l_ ?_
 refine iX (i:=0) results31 underlying80 F yK F F F ?_
 exact⟨[oI dk 34 (pC p k)],(aR [1]),dk,F,F⟩
theorem aea (base:World) [eT prog base] (p:dG) (k:DK) (h:p6 base p k) (gx s:Nat) (hs:s<p.next.length) (v1:Option Addr) (c1:Nat) (g1:(bW k.qs)[s]? =some (.slice v1 p.next[s].length c1)):
  cZ prog base 81 [vN s,.pointer (aD gx)] [oI gx 34 (pC p k)] (fun v O'=> ∃xb:Nat,v=(.func (.func 113) #[] #[(.pointer (aD xb))])∧O'=[oI xb 22 [(.slice v1 p.next[s].length c1)],oI gx 34 (pC p k)]):=by
 refine aF func81 F ntmps81 F ?_
 have qw:=h.rows.1
 refine a8 (ai (aB (bY underlying34 dQ) (ad (bp 0 underlying24) (az (b8 s underlying24 cf F F (bS h.outer) hs (qw▸hs)) (ad (eA underlying22 F F h.outer g1) (TO.lc Vh (aK fun w1 hI=>(haveI:=Inv.tab (P:=prog) hI;Vg w1 v1 c1 p.next[s])) ?_))))))
 rintro vr O' ⟨N,rfl,yb,rfl,rfl⟩
 refine ai (cF ?_)
 refine aM (.func (.func 113) #[] #[(.pointer (aD yb))]) results81 F ?_
 exact⟨_,F,F⟩
abbrev TH (p:dG) (k:DK) (xc xi xl xs xg xa xv xd xo gx:Nat) (ib lb db:Option Addr) (ic lc dc:Nat) (iB:Value) (s:CL) (sb:Option Addr) (sc:Nat) (ab:Option Addr) (ac:Nat) (ps:List Rec):List Lx.Item:=[oI xc 3 [(vI ((s.d_:Nat):Int))],oI xi 22 [(.slice ib p.next.length ic)],oI xl 22 [(.slice lb p.next.length lc)],oI xs 22 [(.slice sb s.ef.length sc)],oI xg 80 [(vI ((p.next.length:Nat):Int)),(.func (.func 81) #[] #[(.pointer (aD gx))])],oI xa 85 [iB],oI xv 119 [(.func (.func 82) #[] #[(.pointer (aD xc)),(.pointer (aD xi)),(.pointer (aD xl)),(.pointer (aD xs)),(.pointer (aD xg)),(.pointer (aD xa)),(.pointer (aD xv)),(.pointer (aD xd)),(.pointer (aD xo))])],oI xd 108 [(.slice db p.next.length dc)],oI xo 24 [(.slice ab ps.length ac)],oI gx 34 (pC p k),ak ib ic 3 1 (bn s.idx),ak lb lc 3 1 (bn s.low),ak sb sc 3 1 (bn s.ef),ak db dc 4 1 (bv s.dn),ak ab ac 22 1 (bW ps)]
theorem YP (base:World) [eT prog base] (p:dG) (k:DK) (h:p6 base p k) (hv:Val p.d) (hn:p.next.length≤4096) (hw:dF p.d≤64) (OO:List Lx.Item) (al:Nat→Bool) (xc xi xl xs xg xa xv xd xo gx:Nat) (ib lb db:Option Addr) (ic lc dc:Nat) (iB:Value) (yp: ∀u,u<p.next.length→dS prog base iB [vI ((u:Nat):Int)] OO (fun v O'=>v=.bool (decide (al u=true))∧O'=OO)):
  ∀(m:Nat) (s:CL) (sb:Option Addr) (sc:Nat) (ab:Option Addr) (ac:Nat) (ps:List Rec) (dW:List Nat) (v:Nat) (hm:s.idx.count 0=m) (Hp:nums ps=s.all.map dY) (jk:Ig p.d al s) (h0:hY p.next.length (EA p.d al) dW s.ts) (wQ:v<p.next.length) (DS:s.idx[v]'(by rw[jk.li];exact wQ)=0) (vB:al v=true) (hg: ∀g∈dW,gL (EA p.d al) g v),
  cZ prog base 82 [vI ((v:Nat):Int),(.pointer (aD xc)),(.pointer (aD xi)),(.pointer (aD xl)),(.pointer (aD xs)),(.pointer (aD xg)),(.pointer (aD xa)),(.pointer (aD xv)),(.pointer (aD xd)),(.pointer (aD xo))] (TH p k xc xi xl xs xg xa xv xd xo gx ib lb db ic lc dc iB s sb sc ab ac ps++(bQ 3 ps++OO)) (fun _ O'=> ∃s' sb' sc' ab' ac' ps' t,O'=TH p k xc xi xl xs xg xa xv xd xo gx ib lb db ic lc dc iB s' sb' sc' ab' ac' ps'++(bQ 3 ps'++OO)∧nums ps'=s'.all.map dY∧JN p.d al dW s v s' t):=by
 intro m
 induction m using Nat.strongRecOn with
 |_ m ih=>?_
 intro s sb sc ab ac ps dW v hm Hp jk h0 wQ DS vB hg
 refine aF func82 F ntmps82 F ?_
 have hli:=jk.li;have tJ:=jk.ll;have hld:=jk.ld;have QU:=jk.ck;have Rr:=jk.sk
 have qw:=h.rows.1
 have Md:p.d.next.length=p.next.length:=rfl
 obtain⟨v1,c1,g1,s1⟩:=h.rows.get wQ
 have zY:p.next[v].length=dF p.d:=hv.len _ (ap wQ)
 let P2:Value:=(vI ((v:Nat):Int))
 refine a8 (au (e5 [P2] (fun z1=>?_)))
 let jT:Value:=(vI ((s.d_+1:Nat):Int))
 refine TO.nl (aB (bp 1 underlying3) (ad (bK (b:=1) s.d_ F F (by omega)) (au (cE [jT] 1 bt ?_))))
 refine TO.ns ?_
 let dC:Lx.Item:=oI xv 119 [(.func (.func 82) #[] #[(.pointer (aD xc)),(.pointer (aD xi)),(.pointer (aD xl)),(.pointer (aD xs)),(.pointer (aD xg)),(.pointer (aD xa)),(.pointer (aD xv)),(.pointer (aD xd)),(.pointer (aD xo))])]
 let dM:Lx.Item:=oI xg 80 [(vI ((p.next.length:Nat):Int)),(.func (.func 81) #[] #[(.pointer (aD gx))])]
 let fo:Lx.Item:=oI z1 3 [(vI ((v:Nat):Int))]
 let gC:Lx.Item:=oI xd 108 [(.slice db p.next.length dc)]
 let gk:Lx.Item:=oI xi 22 [(.slice ib p.next.length ic)]
 let gS:Lx.Item:=oI xl 22 [(.slice lb p.next.length lc)]
 let fN:Lx.Item:=oI gx 34 (pC p k)
 let im:Lx.Item:=oI xo 24 [(.slice ab ps.length ac)]
 let gn:Lx.Item:=oI xa 85 [iB]
 let nP:Lx.Item:=ak db dc 4 1 (bv s.dn)
 let qn:Lx.Item:=ak ab ac 22 1 (bW ps)
 let D_:Lx.Item:=oI xs 22 [(.slice sb s.ef.length sc)]
 let D8:Lx.Item:=ak sb sc 3 1 (bn s.ef)
 let TJ:Lx.Item:=ak lb lc 3 1 (bn s.low)
 refine cV (O':=[fo,oI xc 3 [jT],gk,gS,D_,dM,gn,dC,gC,im,fN,ak ib ic 3 1 (bn s.idx),TJ,D8,nP,qn]++(bQ 3 ps++OO)) Sub.rf ?_
 refine nh [fo,oI xc 3 [jT],gk,gS,D_,dM,gn,dC,gC,im,fN,TJ,D8,nP,qn] [fo,oI xc 3 [jT],gk,gS,D_,dM,gn,dC,gC,im,fN,ak ib ic 3 1 (bn s.idx),TJ,D8,nP,qn] [(0,0),(1,0),(2,0),(3,0),(4,0),(5,0),(6,3),(7,4),(8,0),(9,2)] mixed (by kernel_rfl) (by exact Sub.k (.k (.k (.k (.k (.k (.k (.k (.k (.k (.k (.d (.k (.k (.k (.k .z)))))))))))))))) (by exact Sub.k (.k (.k (.k (.k (.k (.k (.k (.k (.k (.k (.k (.k (.k (.k (.k .z)))))))))))))))) (fun _ _ _ _ h=>h) ?_
 refine am F (bp 2 underlying22) (am F (bp 0 underlying3) (am F (bp 3 underlying22) (am F (bp 0 underlying3) (am F (bp 1 underlying3) (am F (bp 1 underlying3) ?_)))))
 refine ir F (b8 v underlying22 bt F F (bU 11)) ?_
 refine py F F (gw (v:=jT) (vs:=[jT]) (cs:=bn s.idx) v 11 bt F F F F F (by simp) F (by first|(simp;omega)|(simp_all;omega)) ⟨by exact Sub.k (.k (.k (.k (.k (.k (.k (.k (.k (.k (.k (.d (.k (.k (.k (.k .z))))))))))))))),?_⟩)
 let oN:Lx.Item:=ak ib ic 3 1 (bn (s.idx.set v (s.d_+1)))
 refine eM (O':=([fo,oI xc 3 [jT],gk,gS,D_,dM,gn,dC,gC,im,fN,oN,TJ,D8,nP,qn]++(bQ 3 ps++OO))) (by rw[show dq (bn s.idx) v [(vI ((s.d_+1:Nat):Int))]=bn (s.idx.set v (s.d_+1))from(by simp[dq])];exact bj (ay _)) ?_
 refine am F (b8 v underlying22 bt F F (bU 11)) ?_
 refine cG F F (gw (v:=jT) (vs:=[jT]) (cs:=bn s.low) v 12 bt F F F F F (by simp) F (by first|(simp;omega)|(simp_all;omega)) ?_)
 let G9:Lx.Item:=ak lb lc 3 1 (bn (s.low.set v (s.d_+1)))
 refine eM (O':=([fo,oI xc 3 [jT],gk,gS,D_,dM,gn,dC,gC,im,fN,oN,G9,D8,nP,qn]++(bQ 3 ps++OO))) (by rw[show dq (bn s.low) v [(vI ((s.d_+1:Nat):Int))]=bn (s.low.set v (s.d_+1))from(by simp[dq])];exact bj (ay _)) ?_
 refine cl ?_
 refine aB (bp 4 underlying22) (ad (bp 0 underlying3) (au (dv (v:=P2) underlying22 bt F F F (fun z2=>?_))))
 refine au (dp 14 underlying22 underlying22 bt F F F F (by simp) (by decide) (Src.row (j:=0) F (by simp)) (by simp[fL]) (by omega) (by decide) (by decide) (fun z3 Cn=>?_))
 let YQ:Value:=(.slice z3 (s.ef.length+1) Cn)
 refine au (cE [YQ] 5 cf ?_)
 refine ko (au (bO eW (fun z5=>?_)))
 let qL:List Value:=[(.bool false)]
 refine au (cE qL 0 eW ?_)
 refine TO.ns (ba ?_)
 let iC:List Lx.Item:=[oI z5 4 [(.bool false)],aU z2 1 3 1 [(vI ((v:Nat):Int))],fo,oI xc 3 [(vI ((s.d_+1:Nat):Int))],gk,gS,oI xs 22 [(.slice z3 (s.ef.length+1) Cn)],dM,oI xa 85 [iB],dC,gC,oI xo 24 [(.slice ab ps.length ac)],oI gx 34 (pC p k),ak ib ic 3 1 (bn (s.idx.set v (s.d_+1))),ak lb lc 3 1 (bn (s.low.set v (s.d_+1))),ak z3 Cn 3 1 ((bn s.ef)++[(vI ((v:Nat):Int))]),ak db dc 4 1 (bv s.dn),ak ab ac 22 1 (bW ps)]
 refine cV (O':=iC++(bQ 3 ps++OO)) Sub.rf ?_
 refine aJ (ad (bY underlying80 VA) (ad (bp 7 underlying78) (ad (bp 2 underlying3) ?_)))
 have Fb:=dS.under (A:=[fN]) (B:=[oI z5 4 qL,aU z2 1 3 1 [P2],fo,oI xc 3 [jT],gk,gS,oI xs 22 [YQ],dM,gn,dC,gC,im,oN,G9,ak z3 Cn 3 1 ((bn s.ef)++[P2]),nP,qn]++(bQ 3 ps++OO)) (O:=(iC++(bQ 3 ps++OO))) (b_ (first:=[]) (args:=[vI ((v:Nat):Int)]) (fU:=[(.pointer (aD gx))]) adk (aea base p k h gx v wQ v1 c1 g1)) (by exact Sub.dm [oI z5 4 qL,aU z2 1 3 1 [P2],fo,oI xc 3 [jT],gk,gS,oI xs 22 [YQ],dM,gn,dC,gC,im] _ (.k (.k (.k (.k (.k (.k (.k (.k (.k (.k (.k (.k (.k (.k (.k (.k (.k .rf))))))))))))))))))
 refine au (et Fb F F ?_)
 clear Fb
 rintro vr O' ⟨A1,rfl,yb,rfl,rfl⟩
 refine TO.nl (aw ?_)
 refine cV (O':=[oI yb 22 [(.slice v1 p.next[v].length c1)],fo,oI z5 4 qL,oI xc 3 [jT],gk,gS,oI xs 22 [(.slice z3 ((s.ef++[v]).length) Cn)],dM,gn,dC,gC,im,fN,oN,G9,ak z3 Cn 3 1 (bn (s.ef++[v])),nP,qn]++(bQ 3 ps++OO)) (by rw[show bn (s.ef++[v])=bn s.ef++[Value.int .i64 ((v:Nat):Int)] by simp,show(s.ef++[v]).length=s.ef.length+1 by simp];exact(by exact Sub.k (.dm [oI gx 34 (pC p k),oI z5 4 [(.bool false)],aU z2 1 3 1 [(vI ((v:Nat):Int))]] _ (.dm [oI gx 34 (pC p k)] _ (.dm [oI gx 34 (pC p k),aU z2 1 3 1 [(vI ((v:Nat):Int))]] _ (.dm [oI gx 34 (pC p k),aU z2 1 3 1 [(vI ((v:Nat):Int))]] _ (.dm [oI gx 34 (pC p k),aU z2 1 3 1 [(vI ((v:Nat):Int))]] _ (.dm [oI gx 34 (pC p k),aU z2 1 3 1 [(vI ((v:Nat):Int))]] _ (.dm [oI gx 34 (pC p k),aU z2 1 3 1 [(vI ((v:Nat):Int))]] _ (.dm [oI gx 34 (pC p k),aU z2 1 3 1 [(vI ((v:Nat):Int))]] _ (.dm [oI gx 34 (pC p k),aU z2 1 3 1 [(vI ((v:Nat):Int))]] _ (.dm [oI gx 34 (pC p k),aU z2 1 3 1 [(vI ((v:Nat):Int))]] _ (.dm [oI gx 34 (pC p k),aU z2 1 3 1 [(vI ((v:Nat):Int))]] _ (.k (.d (.k (.k (.k (.k (.k .rf)))))))))))))))))))) ?_
 refine T.rangeFunc (first:=[]) (fU:=[(.pointer (aD yb))]) F N1 (fun yl yq Rh=>?_)
 refine cZ.mono (cZ.sub (O':=oI yb 22 [(.slice v1 p.next[v].length c1)]::(eL yl (lp yq none)::([fo,oI z5 4 qL,oI xc 3 [jT],gk,gS,oI xs 22 [(.slice z3 ((s.ef++[v]).length) Cn)],dM,gn,dC,gC,im,fN,oN,G9,ak z3 Cn 3 1 (bn (s.ef++[v])),nP,qn]++(bQ 3 ps++OO)))) (by exact Sub.dm [eL yl (lp yq none)] _ (.k (.k (.k (.k (.k (.k (.k (.k (.k (.k (.k (.k (.k (.k (.k (.k (.k (.k .rf))))))))))))))))))) (ad_ base yb c1 v1 p.next[v] s1 (by omega) (.func (.yield yl) #[] #[]) (fun x O=> ∃(z:CL) (zb:Option Addr) (zc:Nat) (rT:Option Addr) (rU:Nat) (iS:List Rec) (t:List Nat),O=eL yl (lp yq none)::([oI z1 3 [(vI ((v:Nat):Int))],oI z5 4 [(.bool (gK p.d v x))],oI xc 3 [(vI ((z.d_:Nat):Int))],gk,gS,oI xs 22 [(.slice zb z.ef.length zc)],oI xg 80 [(vI ((p.next.length:Nat):Int)),(.func (.func 81) #[] #[(.pointer (aD gx))])],gn,dC,gC,oI xo 24 [(.slice rT iS.length rU)],fN,ak ib ic 3 1 (bn z.idx),ak lb lc 3 1 (bn z.low),ak zb zc 3 1 (bn z.ef),ak db dc 4 1 (bv z.dn),ak rT rU 22 1 (bW iS)]++(bQ 3 iS++OO))∧x≤dF p.d∧nums iS=z.all.map dY∧kN p.d al dW s v x z t) ?_ _ ?_)) ?_
 ·intro x q9 O hq hJ
  obtain⟨wU,pS⟩:=List.getElem?_eq_some_iff.1 hq
  have jm:x<dF p.d:=by omega
  obtain⟨ah6,_,lM,ru⟩:=hv.fG (show v<p.d.next.length from wQ) jm
  have tC:di p.d v x<p.next.length:=ah6
  have Dg:q9=((di p.d v x:Nat):Int):=pS.symm.trans ru
  subst Dg
  obtain⟨z,zb,zc,rT,rU,iS,t,rfl,anb,Bm,hr⟩:=hJ
  refine dS.yield Rh F F ?_
  have ah7:z.idx.length=p.next.length:=hr.ok.li
  have ah8:z.low.length=p.next.length:=hr.ok.ll
  have aeb:z.dn.length=p.next.length:=hr.ok.ld
  have ZS:di p.d v x<z.idx.length:=by omega
  have JL:di p.d v x<z.dn.length:=by omega
  refine aJ (ai (aw (ba (aw (aB (bp 7 underlying85) (aQ ?_))))))
  let TK:Lx.Item:=oI z5 4 [(.bool (gK p.d v x))]
  have E5:=eY ([fo,TK,oI xc 3 [(vI ((z.d_:Nat):Int))],gk,gS,oI xs 22 [(.slice zb z.ef.length zc)],dM,gn,dC,gC,oI xo 24 [(.slice rT iS.length rU)],fN,ak ib ic 3 1 (bn z.idx),ak lb lc 3 1 (bn z.low),ak zb zc 3 1 (bn z.ef),ak db dc 4 1 (bv z.dn),ak rT rU 22 1 (bW iS)]++bQ 3 iS) (yp (di p.d v x) tC)
  refine au (et E5 F F ?_)
  clear E5
  rintro vr O' ⟨rfl,rfl⟩
  refine ad gM (ai (aH (p:= ¬al (di p.d v x)=true) (av Value.bool (by simp)) (fun hc=>?_) (fun hc=>?_)))
  ·have YR:al (di p.d v x)=false:=Bool.eq_false_iff.2 hc
   refine aE (aJ (ad (bp 1 underlying4) ?_))
   by_cases rF:(gK p.d v x=true)
   ·refine ad (dE aC (rF)) ?_
    refine dt (dj (ad bR (au (cE [(.bool true)] 1 eW ?_))))
    refine TO.nl ?_
    exact⟨F,z,zb,zc,rT,rU,iS,t,by rw[show gK p.d v (x+1)=true from(by first|exact iM rF|exact iN (by omega)|exact jP rF (by omega))];rfl,by omega,Bm,hr.no YR⟩
   refine ad (dE aC (Bool.eq_false_iff.2 rF)) (ax aC (ax (bp 0 underlying3) ?_))
   by_cases P3:((di p.d v x:Nat):Int)=((v:Nat):Int)
   ·refine ax (cm en P3) ?_
    refine ad ca (au (cE [(.bool true)] 1 eW ?_))
    refine TO.nl ?_
    exact⟨F,z,zb,zc,rT,rU,iS,t,by rw[show gK p.d v (x+1)=true from(by first|exact iM rF|exact iN (by omega)|exact jP rF (by omega))];rfl,by omega,Bm,hr.no YR⟩
   refine ax (cD en P3) (ad ca (au (cE qL 1 eW ?_)))
   refine TO.nl ?_
   exact⟨F,z,zb,zc,rT,rU,iS,t,by rw[show gK p.d v (x+1)=false from(by first|exact iM rF|exact iN (by omega)|exact jP rF (by omega))];rfl,by omega,Bm,hr.no YR⟩
  have P4:al (di p.d v x)=true:=Classical.not_not.1 hc
  refine aB (bp 3 underlying22) (az (b8 ((di p.d v x)) underlying22 bt F F (bU 12) tC (by rw[ag];exact ZS)) (ad (dR underlying3 F F (bU 12) (dK ZS)) (ad en (ai (aH F (fun hc=>?_) (fun hc=>?_))))))
  ·have Eh:z.idx[di p.d v x]=0:=by omega
   have aec:z.idx[di p.d v x]=0:=by omega
   have NC:z.idx.getD (di p.d v x) 0=0:=by rw[gd ZS];exact aec
   refine aB (bp 8 underlying119) (aQ ?_)
   have F_:=dS.atR [fo,TK] (b_ (first:=[]) (args:=[vI ((di p.d v x:Nat):Int)]) (fU:=[(.pointer (aD xc)),(.pointer (aD xi)),(.pointer (aD xl)),(.pointer (aD xs)),(.pointer (aD xg)),(.pointer (aD xa)),(.pointer (aD xv)),(.pointer (aD xd)),(.pointer (aD xo))]) VM (ih _ (by have:=hr.lt;omega) z zb zc rT rU iS (dW++[v]) (di p.d v x) F Bm hr.ok hr.lp.inv tC aec P4 (kN.child hg wQ vB jm P4)))
   refine au (et F_ F F ?_)
   clear F_
   rintro vr O' ⟨A1,rfl,z2,Rs,Rt,P5,P6,LL,t2,rfl,YS,MS⟩
   have agf:z2.idx.length=p.next.length:=MS.ok.li
   have Wp:z2.low.length=p.next.length:=MS.ok.ll
   refine TO.nl ?_
   refine e6 [(0,0),(1,0),(2,0),(3,0),(4,0),(5,0),(6,0),(7,0),(8,0),(9,0),(10,0),(11,0),(12,2)] ?_
   refine am F (bp 4 underlying22) (am F (bp 0 underlying3) (am F (bp 4 underlying22) (am F (bp 0 underlying3) (am F (b8 v underlying22 bt F F (bU 13)) (am F (dR underlying3 F F (bU 13) dK) (am F (bp 4 underlying22) (am F aC (am F (b8 ((di p.d v x)) underlying22 bt F F (bU 13)) (am F (dR underlying3 F F (bU 13) dK) (am F (nm (a:=z2.low[v]) (b:=(z2.low[di p.d v x])) F F) (am F (b8 v underlying22 bt F F (bU 13)) ?_)))))))))))
   refine cG F F (gw (v:=vI ((min z2.low[v] (z2.low[di p.d v x]):Nat):Int)) (vs:=[(vI ((min z2.low[v] (z2.low[di p.d v x]):Nat):Int))]) (cs:=bn z2.low) v 13 bt F F F F F (by simp) F (by first|(simp;omega)|(simp_all;omega)) ?_)
   refine eM (O':=([fo,TK,oI xc 3 [(vI ((z2.d_:Nat):Int))],gk,gS,oI xs 22 [(.slice Rs z2.ef.length Rt)],dM,gn,dC,gC,oI xo 24 [(.slice P5 LL.length P6)],fN,ak ib ic 3 1 (bn z2.idx),ak lb lc 3 1 (bn (z2.low.set v (min z2.low[v] z2.low[di p.d v x]))),ak Rs Rt 3 1 (bn z2.ef),ak db dc 4 1 (bv z2.dn),ak P5 P6 22 1 (bW LL)]++(bQ 3 LL++OO))) (by rw[show dq (bn z2.low) v [(vI ((min z2.low[v] (z2.low[di p.d v x]):Nat):Int))]=bn (z2.low.set v (min z2.low[v] z2.low[di p.d v x]))from(by simp[dq])];exact bj (ay _)) ?_
   refine cl ?_
   refine aJ (ad (bp 1 underlying4) ?_)
   by_cases rF:(gK p.d v x=true)
   ·refine ad (dE aC (rF)) ?_
    refine dt (dj (ad bR (au (cE [(.bool true)] 1 eW ?_))))
    refine TO.nl ?_
    exact⟨F,{z2 with low:=z2.low.set v (min z2.low[v] z2.low[di p.d v x])},Rs,Rt,P5,P6,LL,t++t2,by rw[show gK p.d v (x+1)=true from(by first|exact iM rF|exact iN (by omega)|exact jP rF (by omega))];rfl,by omega,YS,hr.oH h0 wQ vB jm P4 NC MS (by rw[gd (by omega),gd (by omega)])⟩
   refine ad (dE aC (Bool.eq_false_iff.2 rF)) (ax aC (ax (bp 0 underlying3) ?_))
   by_cases P3:((di p.d v x:Nat):Int)=((v:Nat):Int)
   ·refine ax (cm en P3) ?_
    refine ad ca (au (cE [(.bool true)] 1 eW ?_))
    refine TO.nl ?_
    exact⟨F,{z2 with low:=z2.low.set v (min z2.low[v] z2.low[di p.d v x])},Rs,Rt,P5,P6,LL,t++t2,by rw[show gK p.d v (x+1)=true from(by first|exact iM rF|exact iN (by omega)|exact jP rF (by omega))];rfl,by omega,YS,hr.oH h0 wQ vB jm P4 NC MS (by rw[gd (by omega),gd (by omega)])⟩
   refine ax (cD en P3) (ad ca (au (cE qL 1 eW ?_)))
   refine TO.nl ?_
   exact⟨F,{z2 with low:=z2.low.set v (min z2.low[v] z2.low[di p.d v x])},Rs,Rt,P5,P6,LL,t++t2,by rw[show gK p.d v (x+1)=false from(by first|exact iM rF|exact iN (by omega)|exact jP rF (by omega))];rfl,by omega,YS,hr.oH h0 wQ vB jm P4 NC MS (by rw[gd (by omega),gd (by omega)])⟩
  have Uz: ¬z.idx[di p.d v x]=0:=by omega
  have GM:z.idx.getD (di p.d v x) 0≠0:=by rw[gd ZS];omega
  refine aB (bp 9 underlying108) (az (b8 ((di p.d v x)) underlying108 eW F F (bU 15) tC (by rw[ag];exact JL)) (ad (dR underlying4 F F (bU 15) (gj JL)) (ad gM (ai (aH (p:= ¬z.dn[di p.d v x]=true) (av Value.bool (by cases z.dn[di p.d v x]<;>rfl)) (fun hc=>?_) (fun hc=>?_))))))
  ·have Sz:z.dn.getD (di p.d v x) false=false:=by rw[aj,ah JL];exact Bool.eq_false_iff.2 hc
   refine e6 [(0,0),(1,0),(2,0),(3,0),(4,0),(5,0),(6,0),(7,0),(8,0),(9,0),(10,0),(11,0),(12,2)] ?_
   refine am F (bp 4 underlying22) (am F (bp 0 underlying3) (am F (bp 4 underlying22) (am F (bp 0 underlying3) (am F (b8 v underlying22 bt F F (bU 13)) (am F (dR underlying3 F F (bU 13) dK) (am F (bp 3 underlying22) (am F aC (am F (b8 ((di p.d v x)) underlying22 bt F F (bU 12) tC (by rw[ag];exact ZS)) (am F (dR underlying3 F F (bU 12) (dK ZS)) (am F (nm (a:=z.low[v]) (b:=(z.idx[di p.d v x])) F F) (am F (b8 v underlying22 bt F F (bU 13)) ?_)))))))))))
   refine cG F F (gw (v:=vI ((min z.low[v] (z.idx[di p.d v x]):Nat):Int)) (vs:=[(vI ((min z.low[v] (z.idx[di p.d v x]):Nat):Int))]) (cs:=bn z.low) v 13 bt F F F F F (by simp) F (by first|(simp;omega)|(simp_all;omega)) ?_)
   refine eM (O':=([fo,TK,oI xc 3 [(vI ((z.d_:Nat):Int))],gk,gS,oI xs 22 [(.slice zb z.ef.length zc)],dM,gn,dC,gC,oI xo 24 [(.slice rT iS.length rU)],fN,ak ib ic 3 1 (bn z.idx),ak lb lc 3 1 (bn (z.low.set v (min z.low[v] z.idx[di p.d v x]))),ak zb zc 3 1 (bn z.ef),ak db dc 4 1 (bv z.dn),ak rT rU 22 1 (bW iS)]++(bQ 3 iS++OO))) (by rw[show dq (bn z.low) v [(vI ((min z.low[v] (z.idx[di p.d v x]):Nat):Int))]=bn (z.low.set v (min z.low[v] z.idx[di p.d v x]))from(by simp[dq])];exact bj (ay _)) ?_
   refine cl ?_
   refine aJ (ad (bp 1 underlying4) ?_)
   by_cases rF:(gK p.d v x=true)
   ·refine ad (dE aC (rF)) ?_
    refine dt (dj (ad bR (au (cE [(.bool true)] 1 eW ?_))))
    refine TO.nl ?_
    exact⟨F,{z with low:=z.low.set v (min z.low[v] z.idx[di p.d v x])},zb,zc,rT,rU,iS,t,by rw[show gK p.d v (x+1)=true from(by first|exact iM rF|exact iN (by omega)|exact jP rF (by omega))];rfl,by omega,Bm,hr.back h0 wQ vB jm tC P4 GM Sz (by rw[gd (by omega),gd (by omega)])⟩
   refine ad (dE aC (Bool.eq_false_iff.2 rF)) (ax aC (ax (bp 0 underlying3) ?_))
   by_cases P3:((di p.d v x:Nat):Int)=((v:Nat):Int)
   ·refine ax (cm en P3) ?_
    refine ad ca (au (cE [(.bool true)] 1 eW ?_))
    refine TO.nl ?_
    exact⟨F,{z with low:=z.low.set v (min z.low[v] z.idx[di p.d v x])},zb,zc,rT,rU,iS,t,by rw[show gK p.d v (x+1)=true from(by first|exact iM rF|exact iN (by omega)|exact jP rF (by omega))];rfl,by omega,Bm,hr.back h0 wQ vB jm tC P4 GM Sz (by rw[gd (by omega),gd (by omega)])⟩
   refine ax (cD en P3) (ad ca (au (cE qL 1 eW ?_)))
   refine TO.nl ?_
   exact⟨F,{z with low:=z.low.set v (min z.low[v] z.idx[di p.d v x])},zb,zc,rT,rU,iS,t,by rw[show gK p.d v (x+1)=false from(by first|exact iM rF|exact iN (by omega)|exact jP rF (by omega))];rfl,by omega,Bm,hr.back h0 wQ vB jm tC P4 GM Sz (by rw[gd (by omega),gd (by omega)])⟩
  have YT:z.dn.getD (di p.d v x) false=true:=by rw[aj,ah JL];exact Classical.not_not.1 hc
  refine aE (aJ (ad (bp 1 underlying4) ?_))
  by_cases rF:(gK p.d v x=true)
  ·refine ad (dE aC (rF)) ?_
   refine dt (dj (ad bR (au (cE [(.bool true)] 1 eW ?_))))
   refine TO.nl ?_
   exact⟨F,z,zb,zc,rT,rU,iS,t,by rw[show gK p.d v (x+1)=true from(by first|exact iM rF|exact iN (by omega)|exact jP rF (by omega))];rfl,by omega,Bm,hr.skip h0 jm tC P4 GM YT⟩
  refine ad (dE aC (Bool.eq_false_iff.2 rF)) (ax aC (ax (bp 0 underlying3) ?_))
  by_cases P3:((di p.d v x:Nat):Int)=((v:Nat):Int)
  ·refine ax (cm en P3) ?_
   refine ad ca (au (cE [(.bool true)] 1 eW ?_))
   refine TO.nl ?_
   exact⟨F,z,zb,zc,rT,rU,iS,t,by rw[show gK p.d v (x+1)=true from(by first|exact iM rF|exact iN (by omega)|exact jP rF (by omega))];rfl,by omega,Bm,hr.skip h0 jm tC P4 GM YT⟩
  refine ax (cD en P3) (ad ca (au (cE qL 1 eW ?_)))
  refine TO.nl ?_
  exact⟨F,z,zb,zc,rT,rU,iS,t,by rw[show gK p.d v (x+1)=false from(by first|exact iM rF|exact iN (by omega)|exact jP rF (by omega))];rfl,by omega,Bm,hr.skip h0 jm tC P4 GM YT⟩
 ·exact⟨{s with idx:=s.idx.set v (s.d_+1),low:=s.low.set v (s.d_+1),ef:=s.ef++[v],d_:=s.d_+1},z3,Cn,ab,ac,ps,[],F,aG _,Hp,kN.enter jk h0 wQ DS vB hg⟩
 rintro v9 O' ⟨z,zb,zc,rT,rU,iS,t,rfl,_,Bm,hr⟩
 rw[zY]at hr
 have ah7:z.idx.length=p.next.length:=hr.ok.li
 have ah8:z.low.length=p.next.length:=hr.ok.ll
 have aeb:z.dn.length=p.next.length:=hr.ok.ld
 have DI:v<z.idx.length:=by omega
 have TM:v<z.low.length:=by omega
 have E6:z.ef=s.ef++v::t:=hr.ah3
 have anc:=hr.nd
 have hzs:z.ef.length≤4096:=by have h1:=hr.ok.sk;have h2:=hr.ok.ck;omega
 have ahi:z.ef.length=s.ef.length+(t.length+1):=by rw[E6];simp
 have ane:iS.length≤4096:=by have h1:=hr.ZR;have h2:=av List.length Bm;simp only[ag]at h2;have h3:p.d.next.length=p.next.length:=rfl;omega
 refine⟨none,_,F,?_⟩
 refine ba (ba ?_)
 let eE:Lx.Item:=oI z5 4 [(.bool (gK p.d v p.next[v].length))]
 refine cV (O':=[fo,eE,oI xc 3 [(vI ((z.d_:Nat):Int))],gk,gS,oI xs 22 [(.slice zb z.ef.length zc)],dM,gn,dC,gC,oI xo 24 [(.slice rT iS.length rU)],fN,ak ib ic 3 1 (bn z.idx),ak lb lc 3 1 (bn z.low),ak zb zc 3 1 (bn z.ef),ak db dc 4 1 (bv z.dn),ak rT rU 22 1 (bW iS)]++(bQ 3 iS++OO)) Sub.rf ?_
 refine e6 [(0,0),(1,0),(2,0),(3,0),(4,0),(5,0),(6,0),(7,0),(8,0)] ?_
 refine am F (bp 4 underlying22) (am F (bp 0 underlying3) (am F (b8 v underlying22 bt F F (bU 13) wQ (by rw[ag];exact TM)) (am F (dR underlying3 F F (bU 13) (dK TM)) (am F (bp 3 underlying22) (am F (bp 0 underlying3) (am F (b8 v underlying22 bt F F (bU 12) wQ (by rw[ag];exact DI)) (am F (dR underlying3 F F (bU 12) (dK DI)) (am F gB ?_))))))))
 refine cl ?_
 refine aH F (fun hc=>?_) (fun hc=>?_)
 ·have akk:z.low[v]≠z.idx[v]:=by omega
  have ah9:z.low.getD v 0≠z.idx.getD v 0:=by rw[gd TM,gd DI];omega
  refine cF (e7 ?_)
  refine pk.zero results82 ?_
  exact⟨[oI xc 3 [(vI ((z.d_:Nat):Int))],gk,gS,oI xs 22 [(.slice zb z.ef.length zc)],dM,gn,dC,gC,oI xo 24 [(.slice rT iS.length rU)],fN,ak ib ic 3 1 (bn z.idx),ak lb lc 3 1 (bn z.low),ak zb zc 3 1 (bn z.ef),ak db dc 4 1 (bv z.dn),ak rT rU 22 1 (bW iS)]++(bQ 3 iS++OO),(by exact Sub.d (.d (.k (.k (.k (.k (.k (.k (.k (.k (.k (.k (.k (.k (.k (.k (.k .rf))))))))))))))))),z,zb,zc,rT,rU,iS,v::t,F,Bm,hr.AI h0 F ah9⟩
 have akl: ¬z.low[v]≠z.idx[v]:=by omega
 have YU:z.low.getD v 0=z.idx.getD v 0:=by rw[gd TM,gd DI];omega
 refine aE (aB (bp 5 underlying22) (ad (bp 0 underlying3) (TO.lc Ov (aK fun w1 hI=>(haveI:=Inv.tab (P:=prog) hI;P1 w1 zb zc z.ef (hI.ga (mG 14)) (by omega) v (by rw[E6];simp))) ?_)))
 rintro vr O' ⟨N,rfl,⟨ix9,QQ,aed,aee,rfl⟩,rfl⟩
 obtain rfl:=YN E6 hr.ah4 aed aee
 refine ai (ba ?_)
 refine T.have (φ:=z.ef.length≤zc) (fun w9 hI=>by have:=rowP.cap (hI.row (i:=14) F);simpa using this) (fun rY=>?_)
 have ah_:z.ef.drop s.ef.length=v::t:=by rw[E6];simp
 have aef:z.ef.length-s.ef.length=(dY (v::t)).length:=by rw[pf];simp;omega
 refine aJ (ad (bp 5 underlying22) (az (bH (n7 (lo:=s.ef.length) underlying22 bt F F (by omega) (by omega)) (v':=.slice (pM zb zc s.ef.length 1) (dY (v::t)).length (zc-s.ef.length)) (by rw[aef])) (TO.lc IH (aK fun w1 hI=>(haveI:=Inv.tab (P:=prog) hI;BV w1 (pM zb zc s.ef.length 1) (zc-s.ef.length) (dY (v::t)) (by rw[lN,←ah_];exact Ih (hI.ga (mG 14)) s.ef.length rY) (by omega))) ?_)))
 rintro vr O' ⟨N,rfl,jZ,j5,rfl,rfl⟩
 refine ai (aB (bp 6 underlying22) (aQ (au (B3 (m:=s.ef.length) 15 underlying22 bt F F F (by omega) ?_))))
 let kd:Lx.Item:=ak zb zc 3 1 (bn s.ef)
 refine cY (O':=([ak jZ j5 3 1 (ints (dY (v::t))),fo,eE,oI xc 3 [(vI ((z.d_:Nat):Int))],gk,gS,oI xs 22 [(.slice zb z.ef.length zc)],dM,gn,dC,gC,oI xo 24 [(.slice rT iS.length rU)],fN,ak ib ic 3 1 (bn z.idx),ak lb lc 3 1 (bn z.low),kd,ak db dc 4 1 (bv z.dn),ak rT rU 22 1 (bW iS)]++(bQ 3 iS++OO))) (by rw[show(bn z.ef).take (s.ef.length*1)=bn s.ef from(by rw[Nat.mul_one,←List.map_take,E6,List.take_left])];exact bj (ay _)) ?_
 refine au (cE [(.slice zb s.ef.length zc)] 6 cf ?_)
 refine bJ (az (bV underlying22) (aS (aw ?_)))
 have Ao:(dY (v::t)).length=(v::t).length:=pf _
 let gG:Value:=(.slice jZ ((dY (v::t)).length) j5)
 let ii:Lx.Item:=oI xs 22 [(.slice zb s.ef.length zc)]
 refine cS (fun(j:Nat) ρ O=> ∃(Dj:List Bool),O=([ak jZ j5 3 1 (ints (dY (v::t))),oI z1 3 [(vI ((v:Nat):Int))],eE,oI xc 3 [(vI ((z.d_:Nat):Int))],gk,gS,ii,oI xg 80 [(vI ((p.next.length:Nat):Int)),(.func (.func 81) #[] #[(.pointer (aD gx))])],gn,dC,gC,oI xo 24 [(.slice rT iS.length rU)],fN,ak ib ic 3 1 (bn z.idx),ak lb lc 3 1 (bn z.low),kd,ak db dc 4 1 (bv Dj),ak rT rU 22 1 (bW iS)]++(bQ 3 iS++OO))∧j≤(dY (v::t)).length∧Dj.length=p.next.length∧(∀y,y<p.next.length→Dj.getD y false=(decide (y∈(v::t).take j)||z.dn.getD y false))∧cL [(0,vI ((v:Nat):Int)),(1,(.pointer (aD xc))),(2,(.pointer (aD xi))),(3,(.pointer (aD xl))),(4,(.pointer (aD xs))),(5,(.pointer (aD xg))),(6,(.pointer (aD xa))),(7,(.pointer (aD xv))),(8,(.pointer (aD xd))),(9,(.pointer (aD xo))),(10,(.pointer (aD z1))),(11,(.pointer (aD z5))),(13,vI ((s.ef.length:Nat):Int)),(14,gG),(105,gG),(106,vI ((dY (v::t)).length:Int)),(107,vI ((j:Nat):Int))] ρ) (fun j=>(dY (v::t)).length-j) 0 ?_ ?_
 ·exact⟨z.dn,F,aG _,aeb,fun y hy=>by simp,(.of F)⟩
 rintro j ρ O ⟨Dj,rfl,hj,Md,BW,hH⟩
 obtain⟨fy,rfl⟩:=hH.elim
 clear hH
 refine aB cH (TO.ns (aH F (fun hc=>?_) (fun hc=>?_)))
 ·have aia:j<(dY (v::t)).length:=by omega
  have qc:j<(v::t).length:=by omega
  have Xg:(v::t)[j]∈z.ef:=by rw[E6];exact bl _ (ap qc)
  have KG:(v::t)[j]<p.next.length:=hr.lp.inv.B2 _ ((hr.lp.inv.mem _).1 Xg).1
  have hjd:(v::t)[j]<Dj.length:=by omega
  refine aE (ba (aw (aB (b8 j underlying22 bt F F (bU 0) (by omega)) (ad (dR underlying3 F F (bU 0) (show(ints (dY (v::t)))[j]? =some (vI (((v::t)[j]:Nat):Int)) by rw[lN];exact dK qc)) (ai (aJ (ad (bp 10 underlying108) (az (b8 (((v::t)[j])) underlying108 eW F F (bU 16) KG (by rw[ag];exact hjd)) (au (gw (v:=.bool true) (vs:=[(.bool true)]) (cs:=bv Dj) (((v::t)[j])) 16 eW F F F F F (by simp) F (by first|(simp;omega)|(simp_all;omega)) ?_))))))))))
  let jR:List Lx.Item:=[ak jZ j5 3 1 (ints (dY (v::t))),fo,eE,oI xc 3 [(vI ((z.d_:Nat):Int))],gk,gS,oI xs 22 [(.slice zb s.ef.length zc)],dM,oI xa 85 [iB],dC,gC,oI xo 24 [(.slice rT iS.length rU)],oI gx 34 (pC p k),ak ib ic 3 1 (bn z.idx),ak lb lc 3 1 (bn z.low),ak zb zc 3 1 (bn s.ef),ak db dc 4 1 (bv (Dj.set (v::t)[j] true)),ak rT rU 22 1 (bW iS)]
  refine cY (O':=(jR++(bQ 3 iS++OO))) (by rw[show dq (bv Dj) ((v::t)[j]) [(.bool true)]=bv (Dj.set (v::t)[j] true)from(by simp[dq])];exact bj (ay _)) ?_
  refine TO.nl (aJ (ad (bK (b:=1) j F F (by omega)) (aS ?_)))
  exact⟨j+1,by omega,(jR++(bQ 3 iS++OO)),(by exact Sub.rf),Dj.set (v::t)[j] true,F,by omega,by simp[Md],TF Md qc KG BW,(.of F)⟩
 have aib: ¬j<(dY (v::t)).length:=by omega
 refine bA ?_
 refine aB (bp 2 underlying4) ?_
 by_cases P7:(gK p.d v p.next[v].length=true)
 ·refine ad (dE aC (P7)) ?_
  refine dt (dj (bF bR ?_))
  refine cJ ?_
  refine aJ (ad (bp 11 underlying24) (aQ (au (dv (v:=gG) underlying24 cf F F F (fun z6=>?_)))))
  refine au (dp 18 underlying24 underlying24 cf F F F F (by simp) (by decide) (Src.row (j:=0) F (by simp)) (by simp[fL]) (by omega) (by decide) (by decide) (fun z7 z_=>?_))
  let TN:List Value:=[(.slice z7 (iS.length+1) z_)]
  refine au (cE TN 12 dQ ?_)
  refine TO.nl (e7 ?_)
  refine pk.zero results82 ?_
  have P8:j=(v::t).length:=by omega
  rw[P8,List.take_length]at BW
  have Ga:true=true↔EA p.d al v v∨1<(v::t).length:=by
   rw[←zF (show v<p.d.next.length from wQ) vB,←zY,←Ao]
   exact⟨fun _=>by first|exact .inl P7|exact .inr (by omega),fun _=>rfl⟩
  let YV:Lx.Item:=ak db dc 4 1 (bv Dj)
  refine⟨[oI xc 3 [(vI ((z.d_:Nat):Int))],gk,gS,ii,dM,gn,dC,gC,oI xo 24 TN,fN,ak ib ic 3 1 (bn z.idx),ak lb lc 3 1 (bn z.low),kd,YV,ak z7 z_ 22 1 (bW (iS++[⟨jZ,j5,dY (v::t)⟩]))]++(bQ 3 (iS++[⟨jZ,j5,dY (v::t)⟩])++OO),?_,{z with dn:=Dj,ef:=s.ef,cO:=z.cO+1,comp:=fun y=>if y∈v::t then(z.cO:Int)else z.comp y,all:=if true=true then z.all++[v::t]else z.all},zb,zc,z7,z_,(iS++[⟨jZ,j5,dY (v::t)⟩]),[],(by have XO:(iS++[(⟨jZ,j5,dY (v::t)⟩:Rec)]).length=iS.length+1:=aI;unfold TH;rw[XO];first|done|rfl),by show nums (iS++[⟨jZ,j5,dY (v::t)⟩])=(z.all++[v::t]).map dY;simp[Bm],hr.pop h0 jk F YU Md BW Ga⟩
  show Sub _ ([aU z6 1 22 1 [(.slice jZ ((dY (v::t)).length) j5)],Rec.jS 3 ⟨jZ,j5,dY (v::t)⟩,oI z1 3 [(vI ((v:Nat):Int))],oI z5 4 [(.bool (gK p.d v p.next[v].length))],oI xc 3 [(vI ((z.d_:Nat):Int))],oI xi 22 [(.slice ib p.next.length ic)],oI xl 22 [(.slice lb p.next.length lc)],oI xs 22 [(.slice zb s.ef.length zc)],oI xg 80 [(vI ((p.next.length:Nat):Int)),(.func (.func 81) #[] #[(.pointer (aD gx))])],oI xa 85 [iB],oI xv 119 [(.func (.func 82) #[] #[(.pointer (aD xc)),(.pointer (aD xi)),(.pointer (aD xl)),(.pointer (aD xs)),(.pointer (aD xg)),(.pointer (aD xa)),(.pointer (aD xv)),(.pointer (aD xd)),(.pointer (aD xo))])],oI xd 108 [(.slice db p.next.length dc)],oI xo 24 [(.slice z7 (iS.length+1) z_)],oI gx 34 (pC p k),ak ib ic 3 1 (bn z.idx),ak lb lc 3 1 (bn z.low),ak zb zc 3 1 (bn s.ef),ak db dc 4 1 (bv Dj),ak z7 z_ 22 1 ((bW iS)++[(.slice jZ ((dY (v::t)).length) j5)])]++(bQ 3 iS++OO))
  rw[show bW (iS++[⟨jZ,j5,dY (v::t)⟩])=bW iS++[Value.slice jZ (dY (v::t)).length j5] by simp[Rec.val]]
  exact wz (L':=[oI xc 3 [(vI ((z.d_:Nat):Int))],gk,gS,ii,dM,gn,dC,gC,oI xo 24 TN,fN,ak ib ic 3 1 (bn z.idx),ak lb lc 3 1 (bn z.low),kd,YV,ak z7 z_ 22 1 ((bW iS++[Value.slice jZ (dY (v::t)).length j5]))]) (L:=[aU z6 1 22 1 [gG],Rec.jS 3 ⟨jZ,j5,dY (v::t)⟩,fo,eE,oI xc 3 [(vI ((z.d_:Nat):Int))],gk,gS,ii,dM,gn,dC,gC,oI xo 24 TN,fN,ak ib ic 3 1 (bn z.idx),ak lb lc 3 1 (bn z.low),kd,YV,ak z7 z_ 22 1 ((bW iS)++[gG])]) (by exact Sub.d (.dm [Rec.jS 3 ⟨jZ,j5,dY (v::t)⟩,fo,eE] _ (.dm [Rec.jS 3 ⟨jZ,j5,dY (v::t)⟩,fo,eE] _ (.dm [Rec.jS 3 ⟨jZ,j5,dY (v::t)⟩,fo,eE] _ (.dm [Rec.jS 3 ⟨jZ,j5,dY (v::t)⟩,fo,eE] _ (.dm [Rec.jS 3 ⟨jZ,j5,dY (v::t)⟩,fo,eE] _ (.dm [Rec.jS 3 ⟨jZ,j5,dY (v::t)⟩,fo,eE] _ (.dm [Rec.jS 3 ⟨jZ,j5,dY (v::t)⟩,fo,eE] _ (.dm [Rec.jS 3 ⟨jZ,j5,dY (v::t)⟩,fo,eE] _ (.dm [Rec.jS 3 ⟨jZ,j5,dY (v::t)⟩,fo,eE] _ (.dm [Rec.jS 3 ⟨jZ,j5,dY (v::t)⟩,fo,eE] _ (.dm [Rec.jS 3 ⟨jZ,j5,dY (v::t)⟩,fo,eE] _ (.dm [Rec.jS 3 ⟨jZ,j5,dY (v::t)⟩,fo,eE] _ (.dm [Rec.jS 3 ⟨jZ,j5,dY (v::t)⟩,fo,eE] _ (.dm [Rec.jS 3 ⟨jZ,j5,dY (v::t)⟩,fo,eE] _ (.dm [Rec.jS 3 ⟨jZ,j5,dY (v::t)⟩,fo,eE] _ (.k .z)))))))))))))))))
 refine ad (dE aC (Bool.eq_false_iff.2 P7)) (ax aC (ax (bV underlying22) ?_))
 by_cases E9:1<(((dY (v::t)).length:Nat):Int)
 ·refine ax (cm fg E9) ?_
  refine bF ca ?_
  refine cJ ?_
  refine aJ (ad (bp 11 underlying24) (aQ (au (dv (v:=gG) underlying24 cf F F F (fun z9=>?_)))))
  refine au (dp 18 underlying24 underlying24 cf F F F F (by simp) (by decide) (Src.row (j:=0) F (by simp)) (by simp[fL]) (by omega) (by decide) (by decide) (fun iF yI=>?_))
  let D7:List Value:=[(.slice iF (iS.length+1) yI)]
  refine au (cE D7 12 dQ ?_)
  refine TO.nl (e7 ?_)
  refine pk.zero results82 ?_
  have P8:j=(v::t).length:=by omega
  rw[P8,List.take_length]at BW
  have Ga:true=true↔EA p.d al v v∨1<(v::t).length:=by
   rw[←zF (show v<p.d.next.length from wQ) vB,←zY,←Ao]
   exact⟨fun _=>by first|exact .inl P7|exact .inr (by omega),fun _=>rfl⟩
  let YW:Lx.Item:=ak db dc 4 1 (bv Dj)
  refine⟨[oI xc 3 [(vI ((z.d_:Nat):Int))],gk,gS,ii,dM,gn,dC,gC,oI xo 24 D7,fN,ak ib ic 3 1 (bn z.idx),ak lb lc 3 1 (bn z.low),kd,YW,ak iF yI 22 1 (bW (iS++[⟨jZ,j5,dY (v::t)⟩]))]++(bQ 3 (iS++[⟨jZ,j5,dY (v::t)⟩])++OO),?_,{z with dn:=Dj,ef:=s.ef,cO:=z.cO+1,comp:=fun y=>if y∈v::t then(z.cO:Int)else z.comp y,all:=if true=true then z.all++[v::t]else z.all},zb,zc,iF,yI,(iS++[⟨jZ,j5,dY (v::t)⟩]),[],(by have XO:(iS++[(⟨jZ,j5,dY (v::t)⟩:Rec)]).length=iS.length+1:=aI;unfold TH;rw[XO];first|done|rfl),by show nums (iS++[⟨jZ,j5,dY (v::t)⟩])=(z.all++[v::t]).map dY;simp[Bm],hr.pop h0 jk F YU Md BW Ga⟩
  show Sub _ ([aU z9 1 22 1 [(.slice jZ ((dY (v::t)).length) j5)],Rec.jS 3 ⟨jZ,j5,dY (v::t)⟩,oI z1 3 [(vI ((v:Nat):Int))],oI z5 4 [(.bool (gK p.d v p.next[v].length))],oI xc 3 [(vI ((z.d_:Nat):Int))],oI xi 22 [(.slice ib p.next.length ic)],oI xl 22 [(.slice lb p.next.length lc)],oI xs 22 [(.slice zb s.ef.length zc)],oI xg 80 [(vI ((p.next.length:Nat):Int)),(.func (.func 81) #[] #[(.pointer (aD gx))])],oI xa 85 [iB],oI xv 119 [(.func (.func 82) #[] #[(.pointer (aD xc)),(.pointer (aD xi)),(.pointer (aD xl)),(.pointer (aD xs)),(.pointer (aD xg)),(.pointer (aD xa)),(.pointer (aD xv)),(.pointer (aD xd)),(.pointer (aD xo))])],oI xd 108 [(.slice db p.next.length dc)],oI xo 24 [(.slice iF (iS.length+1) yI)],oI gx 34 (pC p k),ak ib ic 3 1 (bn z.idx),ak lb lc 3 1 (bn z.low),ak zb zc 3 1 (bn s.ef),ak db dc 4 1 (bv Dj),ak iF yI 22 1 ((bW iS)++[(.slice jZ ((dY (v::t)).length) j5)])]++(bQ 3 iS++OO))
  rw[show bW (iS++[⟨jZ,j5,dY (v::t)⟩])=bW iS++[Value.slice jZ (dY (v::t)).length j5] by simp[Rec.val]]
  exact wz (L':=[oI xc 3 [(vI ((z.d_:Nat):Int))],gk,gS,ii,dM,gn,dC,gC,oI xo 24 D7,fN,ak ib ic 3 1 (bn z.idx),ak lb lc 3 1 (bn z.low),kd,YW,ak iF yI 22 1 ((bW iS++[Value.slice jZ (dY (v::t)).length j5]))]) (L:=[aU z9 1 22 1 [gG],Rec.jS 3 ⟨jZ,j5,dY (v::t)⟩,fo,eE,oI xc 3 [(vI ((z.d_:Nat):Int))],gk,gS,ii,dM,gn,dC,gC,oI xo 24 D7,fN,ak ib ic 3 1 (bn z.idx),ak lb lc 3 1 (bn z.low),kd,YW,ak iF yI 22 1 ((bW iS)++[gG])]) (by exact Sub.d (.dm [Rec.jS 3 ⟨jZ,j5,dY (v::t)⟩,fo,eE] _ (.dm [Rec.jS 3 ⟨jZ,j5,dY (v::t)⟩,fo,eE] _ (.dm [Rec.jS 3 ⟨jZ,j5,dY (v::t)⟩,fo,eE] _ (.dm [Rec.jS 3 ⟨jZ,j5,dY (v::t)⟩,fo,eE] _ (.dm [Rec.jS 3 ⟨jZ,j5,dY (v::t)⟩,fo,eE] _ (.dm [Rec.jS 3 ⟨jZ,j5,dY (v::t)⟩,fo,eE] _ (.dm [Rec.jS 3 ⟨jZ,j5,dY (v::t)⟩,fo,eE] _ (.dm [Rec.jS 3 ⟨jZ,j5,dY (v::t)⟩,fo,eE] _ (.dm [Rec.jS 3 ⟨jZ,j5,dY (v::t)⟩,fo,eE] _ (.dm [Rec.jS 3 ⟨jZ,j5,dY (v::t)⟩,fo,eE] _ (.dm [Rec.jS 3 ⟨jZ,j5,dY (v::t)⟩,fo,eE] _ (.dm [Rec.jS 3 ⟨jZ,j5,dY (v::t)⟩,fo,eE] _ (.dm [Rec.jS 3 ⟨jZ,j5,dY (v::t)⟩,fo,eE] _ (.dm [Rec.jS 3 ⟨jZ,j5,dY (v::t)⟩,fo,eE] _ (.dm [Rec.jS 3 ⟨jZ,j5,dY (v::t)⟩,fo,eE] _ (.k .z)))))))))))))))))
 refine ax (cD fg E9) (bF ca (cK (aE (e7 ?_))))
 refine pk.zero results82 ?_
 have P8:j=(v::t).length:=by omega
 rw[P8,List.take_length]at BW
 have Ga:false=true↔EA p.d al v v∨1<(v::t).length:=by
  rw[←zF (show v<p.d.next.length from wQ) vB,←zY,←Ao]
  exact⟨fun g=>absurd g (by decide),fun g=>g.elim (fun g=>absurd g P7) (fun g=>absurd (show(1:Int)<(((dY (v::t)).length:Nat):Int) by omega) E9)⟩
 refine⟨[oI xc 3 [(vI ((z.d_:Nat):Int))],gk,gS,ii,dM,gn,dC,gC,oI xo 24 [(.slice rT iS.length rU)],fN,ak ib ic 3 1 (bn z.idx),ak lb lc 3 1 (bn z.low),kd,ak db dc 4 1 (bv Dj),ak rT rU 22 1 (bW iS)]++(bQ 3 iS++OO),?_,{z with dn:=Dj,ef:=s.ef,cO:=z.cO+1,comp:=fun y=>if y∈v::t then(z.cO:Int)else z.comp y,all:=if false=true then z.all++[v::t]else z.all},zb,zc,rT,rU,iS,[],F,Bm,hr.pop h0 jk F YU Md BW Ga⟩
 show Sub _ ([ak jZ j5 3 1 (ints (dY (v::t))),oI z1 3 [(vI ((v:Nat):Int))],oI z5 4 [(.bool (gK p.d v p.next[v].length))],oI xc 3 [(vI ((z.d_:Nat):Int))],oI xi 22 [(.slice ib p.next.length ic)],oI xl 22 [(.slice lb p.next.length lc)],oI xs 22 [(.slice zb s.ef.length zc)],oI xg 80 [(vI ((p.next.length:Nat):Int)),(.func (.func 81) #[] #[(.pointer (aD gx))])],oI xa 85 [iB],oI xv 119 [(.func (.func 82) #[] #[(.pointer (aD xc)),(.pointer (aD xi)),(.pointer (aD xl)),(.pointer (aD xs)),(.pointer (aD xg)),(.pointer (aD xa)),(.pointer (aD xv)),(.pointer (aD xd)),(.pointer (aD xo))])],oI xd 108 [(.slice db p.next.length dc)],oI xo 24 [(.slice rT iS.length rU)],oI gx 34 (pC p k),ak ib ic 3 1 (bn z.idx),ak lb lc 3 1 (bn z.low),ak zb zc 3 1 (bn s.ef),ak db dc 4 1 (bv Dj),ak rT rU 22 1 (bW iS)]++(bQ 3 iS++OO))
 exact(by exact Sub.d (.d (.d (.k (.k (.k (.k (.k (.k (.k (.k (.k (.k (.k (.k (.k (.k (.k .rf))))))))))))))))))
theorem wA (base:World) [eT prog base] (p:dG) (k:DK) (h:p6 base p k) (hv:Val p.d) (hn:p.next.length≤4096) (hw:dF p.d≤64) (hEl: ∀u w,DE p.d u w→w<p.next.length) (OO:List Lx.Item) (al:Nat→Bool) (iB:Value) (hfc:iB.cells= #[iB]) (yp: ∀u,u<p.next.length→dS prog base iB [vN u] OO (fun v O'=>v=.bool (decide (al u=true))∧O'=OO)) (gx:Nat):
  cZ prog base 33 [(.agg #[vN p.next.length,(.func (.func 81) #[] #[(.pointer (aD gx))])]),iB] ([oI gx 34 (pC p k)]++OO) (fun v O'=> ∃all b c ps,v=.slice b (List.length ps) c∧O'=[ak b c 22 1 (bW ps),oI gx 34 (pC p k)]++(OO++bQ 3 ps)∧nums ps=List.map dY all∧je p.next.length (DE p.d) (fun u=>al u=true) all):=by
 refine aF func33 F ntmps33 F ?_
 refine a8 (au (e5 [vN p.next.length,(.func (.func 81) #[] #[(.pointer (aD gx))])] (fun dk=>?_)))
 refine au (e5 [iB] (fun dI=>?_) F hfc)
 refine au (bO dQ (fun fj=>?_))
 refine TO.nl ?_
 refine iD (fun ρ O=> ∃(zA zB zC zD:Nat),O=([oI zC 22 [(.slice (aD zA) p.next.length p.next.length)],oI zD 22 [(.slice (aD zB) p.next.length p.next.length)],aU zA p.next.length 3 1 (List.replicate p.next.length (vI 0)),aU zB p.next.length 3 1 (List.replicate p.next.length (vI 0)),oI fj 24 [nS],oI dI 85 [iB],oI dk 80 [vN p.next.length,(.func (.func 81) #[] #[(.pointer (aD gx))])],oI gx 34 (pC p k)]++OO)∧cL [(0,(.agg #[vN p.next.length,(.func (.func 81) #[] #[(.pointer (aD gx))])])),(1,iB),(2,(.pointer (aD dk))),(3,(.pointer (aD dI))),(4,(.pointer (aD fj))),(5,(.pointer (aD zC))),(6,(.pointer (aD zD)))] ρ) ?_ ?_
 ·refine T.oH [oI dk 80 [vN p.next.length,(.func (.func 81) #[] #[(.pointer (aD gx))])]] 10 mixed F (by exact Sub.d (.d (.k .z))) (fun _ _ _ _ h=>h) ?_
  refine aO 0 F (by kernel_rfl) (bY underlying80 bt) ?_
  refine aO 1 F (by kernel_rfl) (bp 0 underlying3) ?_
  refine aO 3 F (by kernel_rfl) (bY underlying80 bt) ?_
  refine aO 4 F (by kernel_rfl) (bp 0 underlying3) ?_
  repeat' first
   |refine⟨⟨some 14,_,_,_,_,_⟩,F,F,cq p.next.length underlying22 bt F F (by omega) (by omega) (fun zA=>⟨?_,?_⟩)⟩
   |refine⟨⟨some 17,_,_,_,_,_⟩,F,F,cq p.next.length underlying22 bt F F (by omega) (by omega) (fun zB=>⟨?_,?_⟩)⟩
   |refine⟨⟨some 5,_,_,_,_,_⟩,F,F,bO cf (fun zC=>⟨?_,?_⟩)⟩
   |refine⟨⟨some 6,_,_,_,_,_⟩,F,F,bO cf (fun zD=>⟨?_,?_⟩)⟩
   |refine⟨⟨none,.store 22 _ _,_,_,_,_⟩,F,F,cE [(.slice (aD zA) p.next.length p.next.length)] 0 cf ⟨?_,?_⟩ F F F F⟩
   |refine⟨⟨none,.store 22 _ _,_,_,_,_⟩,F,F,cE [(.slice (aD zA) p.next.length p.next.length)] 1 cf ⟨?_,?_⟩ F F F F⟩
   |refine⟨⟨none,.store 22 _ _,_,_,_,_⟩,F,F,cE [(.slice (aD zA) p.next.length p.next.length)] 2 cf ⟨?_,?_⟩ F F F F⟩
   |refine⟨⟨none,.store 22 _ _,_,_,_,_⟩,F,F,cE [(.slice (aD zA) p.next.length p.next.length)] 3 cf ⟨?_,?_⟩ F F F F⟩
   |refine⟨⟨none,.store 22 _ _,_,_,_,_⟩,F,F,cE [(.slice (aD zB) p.next.length p.next.length)] 0 cf ⟨?_,?_⟩ F F F F⟩
   |refine⟨⟨none,.store 22 _ _,_,_,_,_⟩,F,F,cE [(.slice (aD zB) p.next.length p.next.length)] 1 cf ⟨?_,?_⟩ F F F F⟩
   |refine⟨⟨none,.store 22 _ _,_,_,_,_⟩,F,F,cE [(.slice (aD zB) p.next.length p.next.length)] 2 cf ⟨?_,?_⟩ F F F F⟩
   |refine⟨⟨none,.store 22 _ _,_,_,_,_⟩,F,F,cE [(.slice (aD zB) p.next.length p.next.length)] 3 cf ⟨?_,?_⟩ F F F F⟩
   |exact Sub.d (.d (.d (.k .z)))
   |exact Sub.d (.d (.d (.d (.k .z))))
   |exact Sub.d (.d (.d (.d (.d (.k .z)))))
   |exact Sub.d (.d (.d (.d (.d (.d (.k .z))))))
   |refine aZ [2,5,6,7] (by decide+kernel) F ?_
   |refine aZ [2,5,6] (by decide+kernel) F ?_
   |refine aZ [2,5,7] (by decide+kernel) F ?_
   |refine aZ [2,6,7] (by decide+kernel) F ?_
   |refine aZ [5,6,7] (by decide+kernel) F ?_
   |refine aZ [2,5] (by decide+kernel) F ?_
   |refine aZ [2,6] (by decide+kernel) F ?_
   |refine aZ [2,7] (by decide+kernel) F ?_
   |refine aZ [5,6] (by decide+kernel) F ?_
   |refine aZ [5,7] (by decide+kernel) F ?_
   |refine aZ [5,8] (by decide+kernel) F ?_
   |refine aZ [6,7] (by decide+kernel) F ?_
   |refine aZ [2] (by decide+kernel) F ?_
   |refine aZ [5] (by decide+kernel) F ?_
   |refine aZ [6] (by decide+kernel) F ?_
   |refine aZ [7] (by decide+kernel) F ?_
   |refine aZ [8] (by decide+kernel) F ?_
   |refine aZ [9] (by decide+kernel) F ?_
   |exact trivial
   |refine dB (by kernel_rfl) ⟨zA,zB,zC,zD,F,(.of F)⟩ ?_
   |exact fq []
   |refine⟨?_,?_⟩
 rintro ρ O ⟨zA,zB,zC,zD,rfl,hH⟩
 obtain⟨fy,rfl⟩:=hH.elim
 clear hH
 refine aB (bY underlying80 bt) (ad (bp 6 underlying3) (au (cq p.next.length underlying108 eW F F (by omega) (by omega) (fun fA=>?_))))
 refine au (bO qG (fun fK=>?_))
 refine au (cE [(.slice (aD fA) p.next.length p.next.length)] 0 qG ?_)
 refine ko (au (bO cf (fun ig=>?_)))
 refine ko (au (bO bt (fun mL=>?_)))
 refine au (cE [(vI 0)] 0 bt ?_)
 refine ko (au (bO BT (fun gF=>?_)))
 refine TO.nl (aB (dZ) (au (cE [(.func (.func 82) #[] #[(.pointer (aD mL)),(.pointer (aD zC)),(.pointer (aD zD)),(.pointer (aD ig)),(.pointer (aD dk)),(.pointer (aD dI)),(.pointer (aD gF)),(.pointer (aD fK)),(.pointer (aD fj))])] 0 BT ?_)))
 refine bJ (ad (bY underlying80 bt) (ad (bp 11 underlying3) (aS (aw (T.dH 3 1 (T.dH 22 1 ?_))))))
 refine cV (O':=[oI mL 3 [(vI 0)],oI zC 22 [(.slice (aD zA) p.next.length p.next.length)],oI zD 22 [(.slice (aD zB) p.next.length p.next.length)],oI ig 22 [nS],oI dk 80 [vN p.next.length,(.func (.func 81) #[] #[(.pointer (aD gx))])],oI dI 85 [iB],oI gF 119 [(.func (.func 82) #[] #[(.pointer (aD mL)),(.pointer (aD zC)),(.pointer (aD zD)),(.pointer (aD ig)),(.pointer (aD dk)),(.pointer (aD dI)),(.pointer (aD gF)),(.pointer (aD fK)),(.pointer (aD fj))])],oI fK 108 [(.slice (aD fA) p.next.length p.next.length)],oI fj 24 [nS],oI gx 34 (pC p k),aU zA p.next.length 3 1 (List.replicate p.next.length (vI 0)),aU zB p.next.length 3 1 (List.replicate p.next.length (vI 0)),ak none 0 3 1 [],aU fA p.next.length 4 1 (List.replicate p.next.length (.bool false)),ak none 0 22 1 []]++OO) (by exact Sub.dm [ak none 0 22 1 [],ak none 0 3 1 [],oI gF 119 [(.func (.func 82) #[] #[(.pointer (aD mL)),(.pointer (aD zC)),(.pointer (aD zD)),(.pointer (aD ig)),(.pointer (aD dk)),(.pointer (aD dI)),(.pointer (aD gF)),(.pointer (aD fK)),(.pointer (aD fj))])]] _ (.dm [ak none 0 22 1 [],ak none 0 3 1 [],oI gF 119 [(.func (.func 82) #[] #[(.pointer (aD mL)),(.pointer (aD zC)),(.pointer (aD zD)),(.pointer (aD ig)),(.pointer (aD dk)),(.pointer (aD dI)),(.pointer (aD gF)),(.pointer (aD fK)),(.pointer (aD fj))])],oI ig 22 [nS],oI fK 108 [(.slice (aD fA) p.next.length p.next.length)],aU fA p.next.length 4 1 (List.replicate p.next.length (.bool false))] _ (.dm [ak none 0 22 1 [],ak none 0 3 1 [],oI gF 119 [(.func (.func 82) #[] #[(.pointer (aD mL)),(.pointer (aD zC)),(.pointer (aD zD)),(.pointer (aD ig)),(.pointer (aD dk)),(.pointer (aD dI)),(.pointer (aD gF)),(.pointer (aD fK)),(.pointer (aD fj))])],oI ig 22 [nS],oI fK 108 [(.slice (aD fA) p.next.length p.next.length)],aU fA p.next.length 4 1 (List.replicate p.next.length (.bool false))] _ (.dm [ak none 0 22 1 [],ak none 0 3 1 [],oI gF 119 [(.func (.func 82) #[] #[(.pointer (aD mL)),(.pointer (aD zC)),(.pointer (aD zD)),(.pointer (aD ig)),(.pointer (aD dk)),(.pointer (aD dI)),(.pointer (aD gF)),(.pointer (aD fK)),(.pointer (aD fj))])]] _ (.dm [ak none 0 22 1 [],ak none 0 3 1 [],oI gF 119 [(.func (.func 82) #[] #[(.pointer (aD mL)),(.pointer (aD zC)),(.pointer (aD zD)),(.pointer (aD ig)),(.pointer (aD dk)),(.pointer (aD dI)),(.pointer (aD gF)),(.pointer (aD fK)),(.pointer (aD fj))])],oI fK 108 [(.slice (aD fA) p.next.length p.next.length)],aU fA p.next.length 4 1 (List.replicate p.next.length (.bool false)),aU zA p.next.length 3 1 (List.replicate p.next.length (vI 0)),aU zB p.next.length 3 1 (List.replicate p.next.length (vI 0)),oI fj 24 [nS],oI dI 85 [iB]] _ (.dm [ak none 0 22 1 [],ak none 0 3 1 [],oI gF 119 [(.func (.func 82) #[] #[(.pointer (aD mL)),(.pointer (aD zC)),(.pointer (aD zD)),(.pointer (aD ig)),(.pointer (aD dk)),(.pointer (aD dI)),(.pointer (aD gF)),(.pointer (aD fK)),(.pointer (aD fj))])],oI fK 108 [(.slice (aD fA) p.next.length p.next.length)],aU fA p.next.length 4 1 (List.replicate p.next.length (.bool false)),aU zA p.next.length 3 1 (List.replicate p.next.length (vI 0)),aU zB p.next.length 3 1 (List.replicate p.next.length (vI 0)),oI fj 24 [nS]] _ (.dm [ak none 0 22 1 [],ak none 0 3 1 []] _ (.dm [ak none 0 22 1 [],ak none 0 3 1 []] _ (.dm [ak none 0 22 1 [],ak none 0 3 1 [],aU fA p.next.length 4 1 (List.replicate p.next.length (.bool false)),aU zA p.next.length 3 1 (List.replicate p.next.length (vI 0)),aU zB p.next.length 3 1 (List.replicate p.next.length (vI 0))] _ (.dm [ak none 0 22 1 [],ak none 0 3 1 [],aU fA p.next.length 4 1 (List.replicate p.next.length (.bool false)),aU zA p.next.length 3 1 (List.replicate p.next.length (vI 0)),aU zB p.next.length 3 1 (List.replicate p.next.length (vI 0))] _ (.dm [ak none 0 22 1 [],ak none 0 3 1 [],aU fA p.next.length 4 1 (List.replicate p.next.length (.bool false))] _ (.dm [ak none 0 22 1 [],ak none 0 3 1 [],aU fA p.next.length 4 1 (List.replicate p.next.length (.bool false))] _ (.dm [ak none 0 22 1 []] _ (.dm [ak none 0 22 1 []] _ (.k .rf))))))))))))))) ?_
 refine cS (fun(v:Nat) ρ O=> ∃(s:CL) (sb:Option Addr) (sc:Nat) (ab:Option Addr) (ac:Nat) (ps:List Rec),O=([oI mL 3 [(vN s.d_)],oI zC 22 [(.slice (aD zA) p.next.length p.next.length)],oI zD 22 [(.slice (aD zB) p.next.length p.next.length)],oI ig 22 [(.slice sb s.ef.length sc)],oI dk 80 [vN p.next.length,(.func (.func 81) #[] #[(.pointer (aD gx))])],oI dI 85 [iB],oI gF 119 [(.func (.func 82) #[] #[(.pointer (aD mL)),(.pointer (aD zC)),(.pointer (aD zD)),(.pointer (aD ig)),(.pointer (aD dk)),(.pointer (aD dI)),(.pointer (aD gF)),(.pointer (aD fK)),(.pointer (aD fj))])],oI fK 108 [(.slice (aD fA) p.next.length p.next.length)],oI fj 24 [(.slice ab ps.length ac)],oI gx 34 (pC p k),aU zA p.next.length 3 1 (bn s.idx),aU zB p.next.length 3 1 (bn s.low),ak sb sc 3 1 (bn s.ef),aU fA p.next.length 4 1 (bv s.dn),ak ab ac 22 1 (bW ps)]++(bQ 3 ps++OO))∧v≤p.next.length∧nums ps=s.all.map dY∧Ig p.d al s∧hY p.next.length (EA p.d al) [] s.ts∧(∀u,u<v→al u=true→s.idx.getD u 0≠0)∧cL [(0,(.agg #[vN p.next.length,(.func (.func 81) #[] #[(.pointer (aD gx))])])),(1,iB),(2,(.pointer (aD dk))),(3,(.pointer (aD dI))),(4,(.pointer (aD fj))),(5,(.pointer (aD zC))),(6,(.pointer (aD zD))),(7,(.pointer (aD fK))),(8,(.pointer (aD ig))),(9,(.pointer (aD mL))),(10,(.pointer (aD gF))),(23,vN p.next.length),(24,vN v)] ρ) (fun v=>p.next.length-v) 0 ?_ ?_
 ·refine⟨{idx:=List.replicate p.d.next.length 0,low:=List.replicate p.d.next.length 0,dn:=List.replicate p.d.next.length false,ef:=[],d_:=0,all:=[],comp:=fun _=> -1,cO:=0},none,0,none,0,[],?_,aG _,F,(CL.start p.d al).1,(CL.start p.d al).2,fun u hu=>absurd hu (by omega),(.of F)⟩
  simp only[List.map_replicate,df,eD];rfl
 rintro v ρ O ⟨s,sb,sc,ab,ac,ps,rfl,ang,Hp,jk,hinv,nO,hH⟩
 obtain⟨fy,rfl⟩:=hH.elim
 clear hH
 have hli:s.idx.length=p.next.length:=jk.li
 refine aB cH (TO.ns (aH F (fun hc=>?_) (fun hc=>?_)))
 ·have adN:v<p.next.length:=by omega
  have uT:v<p.next.length:=by omega
  have DI:v<s.idx.length:=by omega
  refine aE (ba (aw (bI (ai (aB (bp 1 underlying22) (az (b8 v underlying22 bt F F (bU 10) uT (by rw[ag];exact DI)) (ad (dR underlying3 F F (bU 10) (dK DI)) ?_)))))))
  by_cases h31:((s.idx[v]:Nat):Int)=0
  ·refine ad (cm en h31) ?_
   refine aQ (ax (bp 5 underlying85) (ax aC ?_))
   by_cases h35:al v=true
   ·have Ge:=eY ([oI mL 3 [(vN s.d_)],oI zC 22 [(.slice (aD zA) p.next.length p.next.length)],oI zD 22 [(.slice (aD zB) p.next.length p.next.length)],oI ig 22 [(.slice sb s.ef.length sc)],oI dk 80 [vN p.next.length,(.func (.func 81) #[] #[(.pointer (aD gx))])],oI dI 85 [iB],oI gF 119 [(.func (.func 82) #[] #[(.pointer (aD mL)),(.pointer (aD zC)),(.pointer (aD zD)),(.pointer (aD ig)),(.pointer (aD dk)),(.pointer (aD dI)),(.pointer (aD gF)),(.pointer (aD fK)),(.pointer (aD fj))])],oI fK 108 [(.slice (aD fA) p.next.length p.next.length)],oI fj 24 [(.slice ab ps.length ac)],oI gx 34 (pC p k),aU zA p.next.length 3 1 (bn s.idx),aU zB p.next.length 3 1 (bn s.low),ak sb sc 3 1 (bn s.ef),aU fA p.next.length 4 1 (bv s.dn),ak ab ac 22 1 (bW ps)]++bQ 3 ps) (yp v uT)
    refine fD F F F (et Ge F F ?_)
    clear Ge
    rintro vr O' ⟨rfl,rfl⟩
    rw[bz h35]
    refine bF bR ?_
    refine cJ ?_
    refine aJ (ad (bp 6 underlying119) (aQ ?_))
    have E5:=b_ (first:=[]) (args:=[vN v]) (fU:=[(.pointer (aD mL)),(.pointer (aD zC)),(.pointer (aD zD)),(.pointer (aD ig)),(.pointer (aD dk)),(.pointer (aD dI)),(.pointer (aD gF)),(.pointer (aD fK)),(.pointer (aD fj))]) VM (YP base p k h hv hn hw OO al mL zC zD ig dk dI gF fK fj gx (aD zA) (aD zB) (aD fA) p.next.length p.next.length p.next.length iB yp _ s sb sc ab ac ps [] v F Hp jk hinv uT (by omega) h35 (fun g hg=>(List.not_mem_nil hg).elim))
    refine au (et E5 F F ?_)
    clear E5
    rintro vr O' ⟨s2,MG,MH,ab2,ac2,ps2,t2,rfl,aie,hd⟩
    refine TO.nl (aJ (ad (bK (b:=1) v F F (by omega)) (aS ?_)))
    exact⟨v+1,by omega,([oI mL 3 [(vN s2.d_)],oI zC 22 [(.slice (aD zA) p.next.length p.next.length)],oI zD 22 [(.slice (aD zB) p.next.length p.next.length)],oI ig 22 [(.slice MG s2.ef.length MH)],oI dk 80 [vN p.next.length,(.func (.func 81) #[] #[(.pointer (aD gx))])],oI dI 85 [iB],oI gF 119 [(.func (.func 82) #[] #[(.pointer (aD mL)),(.pointer (aD zC)),(.pointer (aD zD)),(.pointer (aD ig)),(.pointer (aD dk)),(.pointer (aD dI)),(.pointer (aD gF)),(.pointer (aD fK)),(.pointer (aD fj))])],oI fK 108 [(.slice (aD fA) p.next.length p.next.length)],oI fj 24 [(.slice ab2 ps2.length ac2)],oI gx 34 (pC p k),aU zA p.next.length 3 1 (bn s2.idx),aU zB p.next.length 3 1 (bn s2.low),ak MG MH 3 1 (bn s2.ef),aU fA p.next.length 4 1 (bv s2.dn),ak ab2 ac2 22 1 (bW ps2)]++(bQ 3 ps2++OO)),(by exact Sub.rf),s2,MG,MH,ab2,ac2,ps2,F,by omega,aie,hd.ok,hd.inv,(fun u hu ha=>(Nat.lt_succ_iff_lt_or_eq.1 hu).elim (fun h1=>by have h2:=hd.ext.idx u (nO u h1 ha);show s2.ts.idx u≠0;rw[h2];exact nO u h1 ha) (fun h1=>h1▸hd.post.1)),(.of F)⟩
   have Ge:=eY ([oI mL 3 [(vN s.d_)],oI zC 22 [(.slice (aD zA) p.next.length p.next.length)],oI zD 22 [(.slice (aD zB) p.next.length p.next.length)],oI ig 22 [(.slice sb s.ef.length sc)],oI dk 80 [vN p.next.length,(.func (.func 81) #[] #[(.pointer (aD gx))])],oI dI 85 [iB],oI gF 119 [(.func (.func 82) #[] #[(.pointer (aD mL)),(.pointer (aD zC)),(.pointer (aD zD)),(.pointer (aD ig)),(.pointer (aD dk)),(.pointer (aD dI)),(.pointer (aD gF)),(.pointer (aD fK)),(.pointer (aD fj))])],oI fK 108 [(.slice (aD fA) p.next.length p.next.length)],oI fj 24 [(.slice ab ps.length ac)],oI gx 34 (pC p k),aU zA p.next.length 3 1 (bn s.idx),aU zB p.next.length 3 1 (bn s.low),ak sb sc 3 1 (bn s.ef),aU fA p.next.length 4 1 (bv s.dn),ak ab ac 22 1 (bW ps)]++bQ 3 ps) (yp v uT)
   refine fD F F F (et Ge F F ?_)
   clear Ge
   rintro vr O' ⟨rfl,rfl⟩
   rw[bT h35]
   refine bF bR (cK (aE (aJ (ad (bK (b:=1) v F F (by omega)) (aS ?_)))))
   exact⟨v+1,by omega,([oI mL 3 [(vN s.d_)],oI zC 22 [(.slice (aD zA) p.next.length p.next.length)],oI zD 22 [(.slice (aD zB) p.next.length p.next.length)],oI ig 22 [(.slice sb s.ef.length sc)],oI dk 80 [vN p.next.length,(.func (.func 81) #[] #[(.pointer (aD gx))])],oI dI 85 [iB],oI gF 119 [(.func (.func 82) #[] #[(.pointer (aD mL)),(.pointer (aD zC)),(.pointer (aD zD)),(.pointer (aD ig)),(.pointer (aD dk)),(.pointer (aD dI)),(.pointer (aD gF)),(.pointer (aD fK)),(.pointer (aD fj))])],oI fK 108 [(.slice (aD fA) p.next.length p.next.length)],oI fj 24 [(.slice ab ps.length ac)],oI gx 34 (pC p k),aU zA p.next.length 3 1 (bn s.idx),aU zB p.next.length 3 1 (bn s.low),ak sb sc 3 1 (bn s.ef),aU fA p.next.length 4 1 (bv s.dn),ak ab ac 22 1 (bW ps)]++(bQ 3 ps++OO)),(by exact Sub.rf),s,sb,sc,ab,ac,ps,F,by omega,Hp,jk,hinv,(fun u hu ha=>(Nat.lt_succ_iff_lt_or_eq.1 hu).elim (fun h1=>nO u h1 ha) (fun h1=>by subst h1;first|(rw[gd (by omega)];omega)|exact absurd ha h35)),(.of F)⟩
  refine ad (cD en h31) (aQ (dt (dj (bF ca (cK (aE (aJ ?_)))))))
  refine ad (bK (b:=1) v F F (by omega)) (aS ?_)
  exact⟨v+1,by omega,([oI mL 3 [(vN s.d_)],oI zC 22 [(.slice (aD zA) p.next.length p.next.length)],oI zD 22 [(.slice (aD zB) p.next.length p.next.length)],oI ig 22 [(.slice sb s.ef.length sc)],oI dk 80 [vN p.next.length,(.func (.func 81) #[] #[(.pointer (aD gx))])],oI dI 85 [iB],oI gF 119 [(.func (.func 82) #[] #[(.pointer (aD mL)),(.pointer (aD zC)),(.pointer (aD zD)),(.pointer (aD ig)),(.pointer (aD dk)),(.pointer (aD dI)),(.pointer (aD gF)),(.pointer (aD fK)),(.pointer (aD fj))])],oI fK 108 [(.slice (aD fA) p.next.length p.next.length)],oI fj 24 [(.slice ab ps.length ac)],oI gx 34 (pC p k),aU zA p.next.length 3 1 (bn s.idx),aU zB p.next.length 3 1 (bn s.low),ak sb sc 3 1 (bn s.ef),aU fA p.next.length 4 1 (bv s.dn),ak ab ac 22 1 (bW ps)]++(bQ 3 ps++OO)),(by exact Sub.rf),s,sb,sc,ab,ac,ps,F,by omega,Hp,jk,hinv,(fun u hu ha=>(Nat.lt_succ_iff_lt_or_eq.1 hu).elim (fun h1=>nO u h1 ha) (fun h1=>by subst h1;first|(rw[gd (by omega)];omega)|exact absurd ha h35)),(.of F)⟩
 have adO: ¬v<p.next.length:=by omega
 refine bA ?_
 refine aB (bp 8 underlying24) (au (cE [(.slice ab ps.length ac)] 8 dQ ?_))
 refine l_ ?_
 refine uc (i:=8) results33 underlying24 F F F ?_
 have Dk:=PV (S:=fun u=>al u=true) (fun u w e=>⟨e.1,hEl u w e⟩) hinv (fun u hu ha=>nO u (by omega) ha) (fun u hu=>jk.alw u hu) jk.prt
 exact⟨[ak ab ac 22 1 (bW ps),oI gx 34 (pC p k)]++(OO++bQ 3 ps),rG (by exact Sub.d (.d (.d (.d (.d (.d (.d (.d (.d (.dm [oI gx 34 (pC p k),aU zA p.next.length 3 1 (bn s.idx),aU zB p.next.length 3 1 (bn s.low),ak sb sc 3 1 (bn s.ef),aU fA p.next.length 4 1 (bv s.dn)] _ (.k (.d (.d (.d (.d .rf))))))))))))))),s.all,ab,ac,ps,F,F,Hp,Dk⟩
theorem aif (base:World) [eT prog base] (sb m:Nat) (mm:List (Int×Bool)) (u:Nat):
  cZ prog base 34 [vN u,.pointer (aD sb)] [oI sb 83 [(.map (some m))],cM fB Value.bool m mm] (fun v O'=>v=.bool (decide (tF mm u=true))∧O'=[oI sb 83 [(.map (some m))],cM fB Value.bool m mm]):=by
 refine aF func34 F ntmps34 F ?_
 refine a8 (ai (aB (bp 0 underlying83) (az (bH (jy (K:=fB) (V:=Value.bool) (a:=((u:Nat):Int)) underlying83 eW (fZ.int underlying3) F F (mG 1)) (v':=.bool (decide (tF mm u=true))) (by unfold tF;cases eN ((u:Nat):Int) mm with|none=>rfl|some b=>cases b<;>rfl)) (ai (cF ?_)))))
 refine aM (.bool (decide (tF mm u=true))) results34 F ?_
 exact⟨F,F⟩
theorem aig (base:World) [eT prog base] (n ob:Nat) (rb:Option Addr) (rc:Nat) (o:List Nat) (hl:o.length=n) (s:Nat) (hs:s<n):
  cZ prog base 36 [vN s,.pointer (aD ob)] [oI ob 22 [(.slice rb n rc)],ak rb rc 3 1 (bn o)] (fun v O'=>v=vN (fn o s)∧O'=[oI ob 22 [(.slice rb n rc)],ak rb rc 3 1 (bn o)]):=by
 refine aF func36 F ntmps36 F ?_
 have Yw:s<o.length:=by omega
 have hgv:(bn o)[s]? =some (vN (fn o s)):=by rw[ot Yw];exact dK Yw
 refine a8 (ai (aB (bp 0 underlying22) (az (b8 s underlying22 bt F F (bU 1) hs (by rw[ag];exact Yw)) (ad (dR underlying3 F F (bU 1) hgv) (ai (cF ?_))))))
 refine aM (vN (fn o s)) results36 F ?_
 exact⟨F,F⟩
abbrev aei (p:dG) (k:DK) (gb pb fb ob gx:Nat) (rb:Option Addr) (rc:Nat) (o:List Nat) (m:Nat) (mm:List (Int×Bool)):List Lx.Item:=[oI gb 80 [vN p.next.length,(.func (.func 81) #[] #[(.pointer (aD gx))])],oI pb 34 (pC p k),oI fb 82 [(.func (.func 32) #[] #[(.pointer (aD gb)),(.pointer (aD pb)),(.pointer (aD fb)),(.pointer (aD ob))])],oI ob 22 [(.slice rb p.next.length rc)],oI gx 34 (pC p k),ak rb rc 3 1 (bn o),cM fB Value.bool m mm]
theorem TP (base:World) [eT prog base] (p:dG) (k:DK) (h:p6 base p k) (hp:cU p) (gb pb fb ob gx:Nat) (rb:Option Addr) (rc:Nat):
  ∀(N:Nat) (mm:List (Int×Bool)) (m:Nat) (o:List Nat) (hN:ww p.next.length (fun u=>tF mm u=true)=N) (hS: ∀u,tF mm u=true→u<p.next.length) (hol:o.length=p.next.length) (h0: ∀u,tF mm u=true→fn o u=0),
  cZ prog base 32 [(.map (some m)),(.pointer (aD gb)),(.pointer (aD pb)),(.pointer (aD fb)),(.pointer (aD ob))] (aei p k gb pb fb ob gx rb rc o m mm) (fun v O'=> ∃o2 jQ,v=vN jQ∧O'=aei p k gb pb fb ob gx rb rc o2 m mm∧o2.length=p.next.length∧LM (DE p.d) (fC p) (fun u=>tF mm u=true) (fn o) (fn o2) jQ):=by
 intro N
 induction N using Nat.strongRecOn with
 |_ N ih=>?_
 intro mm m o hN hS hol h0
 refine aF func32 F ntmps32 F ?_
 have hn4:=hp.n4
 let qn:Value:=(.map (some m))
 refine a8 (au (e5 [qn] (fun z1=>?_)))
 refine bh (bJ (ad (eg 1 underlying80 yK) (ad (dZ) ?_)))
 let dC:Lx.Item:=oI fb 82 [(.func (.func 32) #[] #[(.pointer (aD gb)),(.pointer (aD pb)),(.pointer (aD fb)),(.pointer (aD ob))])]
 let dM:Lx.Item:=oI gb 80 [vN p.next.length,(.func (.func 81) #[] #[(.pointer (aD gx))])]
 let eE:Lx.Item:=oI ob 22 [(.slice rb p.next.length rc)]
 let fo:Lx.Item:=oI z1 83 [(.map (some m))]
 let gC:Lx.Item:=cM fB Value.bool m mm
 let gS:Lx.Item:=oI gx 34 (pC p k)
 let iC:Lx.Item:=oI pb 34 (pC p k)
 let gG:Value:=(.pointer (aD z1))
 have LA:=cZ.atR (O:=[fo,dM,iC,dC,eE,gS,ak rb rc 3 1 (bn o),gC]) [dM,iC,dC,eE,ak rb rc 3 1 (bn o)] (wA base p k h hp.val hp.n4 hp.wx (P9 hp.val) [fo,gC] (tF mm) (.func (.func 34) #[] #[gG]) F (fun u hu=>b_ (first:=[]) (args:=[vN u]) (fU:=[gG]) ac_ (aif base z1 m mm u)) gx) (by exact Sub.dm [fo] _ (.dm [fo] _ (.dm [fo] _ (.dm [fo] _ (.dm [fo,gS] _ (.dm [fo] _ (.k (.k .z))))))))
 refine TO.lc VH LA ?_
 clear LA
 rintro vr O' ⟨A1,rfl,all,ab,ac,ps,rfl,rfl,Hp,Dk⟩
 have xC:=BE Hp
 have aih:=Dk.ZR
 refine ad (bV underlying24) (aS (aw ?_))
 let gk:Lx.Item:=ak ab ac 22 1 (bW ps)
 let gn:Value:=(.slice ab ps.length ac)
 let ii:Value:=(.pointer (aD gb))
 let kd:Value:=(.pointer (aD pb))
 let oN:Value:=(.pointer (aD fb))
 let nP:Value:=(.pointer (aD ob))
 refine cS (fun(i:Nat) ρ O=> ∃(o2:List Nat) (jQ:Nat),O=([dM,iC,dC,eE,ak rb rc 3 1 (bn o2),gk,gS,fo,gC]++(bQ 3 ps))∧i≤all.length∧jQ≤17∧o2.length=p.next.length∧Dl (DE p.d) (fC p) (fn o) (fn o2) (all.take i) jQ∧cL [(0,qn),(1,ii),(2,kd),(3,oN),(4,nP),(5,gG),(6,vN jQ),(20,gn),(21,vI (ps.length:Int)),(22,vN i)] ρ) (fun i=>all.length-i) 0 ?_ ?_
 ·exact⟨o,0,F,aG _,aG _,hol,Dl.start _ _ _,(.of F)⟩
 rintro i ρ O ⟨o2,jQ,rfl,hi,hmo,TQ,hRI,hH⟩
 obtain⟨fy,rfl⟩:=hH.elim
 clear hH
 refine aB cH (TO.ns (aH F (fun hc=>?_) (fun hc=>?_)))
 ·have aaL:i<ps.length:=by omega
  have gf:i<all.length:=by omega
  obtain⟨l,mB⟩: ∃l,all[i]=l:=⟨_,F⟩
  obtain⟨TR,TT,DL⟩:=Gf Hp gf
  rw[mB]at DL
  have AS:i<ps.length:=by omega
  have Mq:l∈all:=mB▸ap gf
  have L9:=Dk.ne l Mq
  have mz:=Dk.sub l Mq
  have aej:=P_ (pr:=fC p) L9
  have hdj: ∀Q∈all.take i,∀v∈Q,v∉l:=fun Q hQ v hv=>mB▸LN Dk.nd gf Q hQ v hv
  have tJ:l.length≤4096:=by
   have h1:=Dk.len
   have h2:l.length≤all.flatten.length:=(List.sublist_flatten_of_mem Mq).length_le
   omega
  refine aE (ba (aw (aB (b8 i underlying24 cf F F (bU 5) AS (by rw[ag];exact AS)) (ad (dR underlying22 F F (bU 5) (Qa DL)) (ai (a8 (bh (bJ (az (bV underlying22) (aS (aw ?_)))))))))))
  let jR:Lx.Item:=ak rb rc 3 1 (bn o2)
  let jT:Value:=(.slice TR l.length TT)
  refine cX (fun(j2:Nat) ρ O=>O=([dM,iC,dC,eE,jR,gk,gS,fo,gC]++(bQ 3 ps))∧j2≤l.length∧cL [(0,qn),(1,ii),(2,kd),(3,oN),(4,nP),(5,gG),(6,vN jQ),(8,jT),(9,vN (qv (fC p) (l.take j2))),(20,gn),(21,vI (ps.length:Int)),(22,vN i),(26,jT),(27,vI (l.length:Int)),(28,vN j2)] ρ) (fun j2=>l.length-j2) 0 ?_ ?_
  ·exact⟨F,aG _,(.of F)⟩
  rintro j2 ρ O ⟨rfl,zX,hH⟩
  obtain⟨fy,rfl⟩:=hH.elim
  clear hH
  refine aB cH (TO.ns (aH F (fun hc=>?_) (fun hc=>?_)))
  ·have V_:j2<l.length:=by omega
   have Qb:j2<l.length:=by omega
   obtain⟨KG,hjS⟩:=mz _ (ap Qb)
   have ZT:l[j2]<p.dX.length:=by rw[hp.pl];exact KG
   have hpb:=hp.wR l[j2]
   refine aE (ba (aw (aB (b8 j2 underlying22 bt F F (fun w9 wV=>wV.ga (bl _ (iO DL))) Qb (by rw[ag];exact Qb)) (ad (dR underlying3 F F (fun w9 wV=>wV.ga (bl _ (iO DL))) (dK Qb)) (ai (aJ (az (bY underlying34 cf) (ad (bp 1 underlying22) (aQ ?_)))))))))
   refine ad (b8 (l[j2]) underlying22 bt F F (bS h.dX) ZT (by rw[ag];exact ZT)) (ad (eA underlying3 F F h.dX (by rw[ints,bc,hp.tg KG];rfl)) (ad (px (a:=(qv (fC p) (l.take j2))) (b:=(fC p l[j2])) F F) (bh ?_)))
   refine TO.nl (aJ (ad (bK (b:=1) j2 F F (by omega)) (aS ?_)))
   exact⟨j2+1,by omega,F,by omega,⟨F,F,F,F,F,F,F,F,(by rw[Qc Qb];rfl),F,F,F,F,F,F,trivial⟩⟩
  have Wa: ¬j2<l.length:=by omega
  refine bA ?_
  refine a8 (au (io fB Value.bool (fun GV=>?_)))
  refine bh (bJ (az (bV underlying22) (aS (aw ?_))))
  refine cS (fun(j:Nat) ρ O=> ∃(mr:List (Int×Bool)),O=([cM fB Value.bool GV mr,dM,iC,dC,eE,jR,gk,gS,fo,gC]++(bQ 3 ps))∧j≤l.length∧(∀u,tF mr u=decide (u∈l.take j∧fC p u<qv (fC p) (l.take j2)))∧cL [(0,qn),(1,ii),(2,kd),(3,oN),(4,nP),(5,gG),(6,vN jQ),(8,jT),(9,vN (qv (fC p) (l.take j2))),(12,(.map (some GV))),(20,gn),(21,vI (ps.length:Int)),(22,vN i),(41,jT),(42,vI (l.length:Int)),(43,vN j)] ρ) (fun j=>l.length-j) 0 ?_ ?_
  ·exact⟨[],F,aG _,(fun u=>by simp[JO]),(.of F)⟩
  rintro j ρ O ⟨mr,rfl,hj,hmr,hH⟩
  obtain⟨fy,rfl⟩:=hH.elim
  clear hH
  refine aB cH (TO.ns (aH F (fun hc=>?_) (fun hc=>?_)))
  ·have Vt:j<l.length:=by omega
   have qc:j<l.length:=by omega
   obtain⟨KG,hjS⟩:=mz _ (ap qc)
   have ZT:l[j]<p.dX.length:=by rw[hp.pl];exact KG
   have hpb:=hp.wR l[j]
   refine aE (ba (aw (aB (b8 j underlying22 bt F F (fun w9 wV=>wV.ga (bl _ (iO DL))) qc (by rw[ag];exact qc)) (ad (dR underlying3 F F (fun w9 wV=>wV.ga (bl _ (iO DL))) (dK qc)) (ai (aB (bY underlying34 cf) (ad (bp 2 underlying22) (az (b8 (l[j]) underlying22 bt F F (bS h.dX) ZT (by rw[ag];exact ZT)) ?_))))))))
   refine ad (eA underlying3 F F h.dX (by rw[ints,bc,hp.tg KG];rfl)) (az cH ?_)
   refine TO.nl (aH F (fun hc=>?_) (fun hc=>?_))
   ·have Wc:fC p l[j]<qv (fC p) (l.take j2):=by omega
    refine aJ (dr (au (oO (K:=fB) (V:=Value.bool) (a:=((l[j]:Nat):Int)) (v:=true) 0 underlying83 (fZ.int underlying3) (sbY _) F F F F ?_)))
    refine TO.nl (aJ (ad (bK (b:=1) j F F (by omega)) (aS ?_)))
    exact⟨j+1,by omega,([cM fB Value.bool GV (gH ((l[j]:Nat):Int) true mr),dM,iC,dC,eE,jR,gk,gS,fo,gC]++(bQ 3 ps)),(by exact Sub.rf),gH ((l[j]:Nat):Int) true mr,F,by omega,Qd qc hmr Wc,(.of F)⟩
   have We: ¬fC p l[j]<qv (fC p) (l.take j2):=by omega
   refine aE (aJ (ad (bK (b:=1) j F F (by omega)) (aS ?_)))
   exact⟨j+1,by omega,([cM fB Value.bool GV mr,dM,iC,dC,eE,jR,gk,gS,fo,gC]++(bQ 3 ps)),(by exact Sub.rf),mr,F,by omega,Qe qc hmr We,(.of F)⟩
  have Vu: ¬j<l.length:=by omega
  refine bA ?_
  refine ba ?_
  have aek:l.take j2=l:=aN (by omega)
  have ael:l.take j=l:=aN (by omega)
  have Ij: ∀u,tF mr u=true↔u∈l∧fC p u<qv (fC p) (l.take j2):=fun u=>by rw[hmr u,bo,ael]
  have Qf:(fun u=>tF mr u=true)=fun u=>u∈l∧fC p u<qv (fC p) (l.take j2):=funext fun u=>propext (Ij u)
  have hSr: ∀u,tF mr u=true→u<p.next.length:=fun u hu=>(mz u ((Ij u).1 hu).1).1
  have h0r: ∀u,tF mr u=true→fn o2 u=0:=fun u hu=>by
   rw[hRI.out u (fun Q hQ Uu=>hdj Q hQ u Uu ((Ij u).1 hu).1)]
   exact h0 u (mz u ((Ij u).1 hu).1).2
  have aem:ww p.next.length (fun u=>tF mr u=true)<N:=by
   rw[←hN]
   obtain⟨u9,YX,hue⟩:=aej.1
   exact zj (fun u hu=>(mz u ((Ij u).1 hu).1).2) (mz u9 YX).1 (mz u9 YX).2 (fun g=>by have g2:=((Ij u9).1 g).2;rw[aek]at g2;omega)
  refine aJ (ad (bp 3 underlying82) (aQ ?_))
  let fN:List Lx.Item:=[cM fB Value.bool GV mr]
  have aen:=dS.under (A:=[dM,iC,dC,eE,gS,jR,cM fB Value.bool GV mr]) (B:=[gk,fo,gC]++(bQ 3 ps)) (O:=([cM fB Value.bool GV mr,dM,iC,dC,eE,jR,gk,gS,fo,gC]++(bQ 3 ps))) (b_ (first:=[]) (args:=[(.map (some GV))]) (fU:=[ii,kd,oN,nP]) VG (ih _ aem mr GV o2 F hSr TQ h0r)) (by exact Sub.dm fN _ (.dm fN _ (.dm fN _ (.dm fN _ (.dm [cM fB Value.bool GV mr,jR,gk] _ (.dm fN _ (.k (.k (.k (.k .rf))))))))))
  refine au (et aen F F ?_)
  clear aen
  rintro vr O' ⟨A1,rfl,o3,k3,rfl,rfl,aii,ZU⟩
  have hk3:k3≤16:=ZU.le hSr hp.wR
  have anj:qv (fC p) (l.take j2)≤16:=YY hp.wR _
  refine ai (bI (aQ (az (bK (b:=(qv (fC p) (l.take j2))) k3 F F (by omega)) (ad (kR (a:=(k3+(qv (fC p) (l.take j2)))) (b:=2) F F (by omega)) (ad (bK (b:=((k3+(qv (fC p) (l.take j2)))%2)) k3 F F (by omega)) (bh (bJ (az (bV underlying22) (aS (aw ?_))))))))))
  refine cS (fun(j4:Nat) ρ O=> ∃(o4:List Nat),O=([dM,iC,dC,eE,gS,ak rb rc 3 1 (bn o4),cM fB Value.bool GV mr,gk,fo,gC]++(bQ 3 ps))∧j4≤l.length∧o4.length=p.next.length∧(∀u,fn o4 u=if u∈l.take j4∧ ¬fC p u<qv (fC p) (l.take j2)then k3+(k3+qv (fC p) (l.take j2))%2 else fn o3 u)∧cL [(0,qn),(1,ii),(2,kd),(3,oN),(4,nP),(5,gG),(6,vN jQ),(8,jT),(9,vN (qv (fC p) (l.take j2))),(12,(.map (some GV))),(15,vI ((k3+((k3+(qv (fC p) (l.take j2)))%2):Nat):Int)),(20,gn),(21,vI (ps.length:Int)),(22,vN i),(66,jT),(67,vI (l.length:Int)),(68,vN j4)] ρ) (fun j4=>l.length-j4) 0 ?_ ?_
  ·exact⟨o3,F,aG _,aii,(fun u=>by simp),(.of F)⟩
  rintro j4 ρ O ⟨o4,rfl,hj4,YZ,hs4,hH⟩
  obtain⟨fy,rfl⟩:=hH.elim
  clear hH
  refine aB cH (TO.ns (aH F (fun hc=>?_) (fun hc=>?_)))
  ·have aeo:j4<l.length:=by omega
   have Ik:j4<l.length:=by omega
   obtain⟨KG,hjS⟩:=mz _ (ap Ik)
   have ZT:l[j4]<p.dX.length:=by rw[hp.pl];exact KG
   have hpb:=hp.wR l[j4]
   have aij:tF mr l[j4]=decide (fC p l[j4]<qv (fC p) (l.take j2)):=by rw[hmr,ael];exact decide_eq_decide.2 ⟨fun g=>g.2,fun g=>⟨ap Ik,g⟩⟩
   refine aE (ba (aw (aB (b8 j4 underlying22 bt F F (fun w9 wV=>wV.ga (bl _ (iO DL))) Ik (by rw[ag];exact Ik)) (ad (dR underlying3 F F (fun w9 wV=>wV.ga (bl _ (iO DL))) (dK Ik)) (ai (bI (az (bH (jy (K:=fB) (V:=Value.bool) (a:=((l[j4]:Nat):Int)) underlying83 eW (fZ.int underlying3) F F (mG 6)) (v':=.bool (tF mr l[j4])) (by unfold tF;cases eN ((l[j4]:Nat):Int) mr with|none=>rfl|some b=>cases b<;>rfl)) (bF gM (aH (p:= ¬fC p l[j4]<qv (fC p) (l.take j2)) (av Value.bool (by rw[aij,decide_not])) (fun hc=>?_) (fun hc=>?_))))))))))
   ·have UF: ¬fC p l[j4]<qv (fC p) (l.take j2):=hc
    refine aJ (ad (bp 3 underlying22) (aQ (az (b8 (l[j4]) underlying22 bt F F (bU 5) KG (by rw[ag];omega)) (au (gw (v:=vI ((k3+((k3+(qv (fC p) (l.take j2)))%2):Nat):Int)) (vs:=[(vI ((k3+((k3+(qv (fC p) (l.take j2)))%2):Nat):Int))]) (cs:=bn o4) (l[j4]) 5 bt F F F F F (by simp) F (by first|(simp;omega)|(simp_all;omega)) ?_)))))
    let im:Lx.Item:=ak rb rc 3 1 (bn (o4.set l[j4] (k3+(k3+qv (fC p) (l.take j2))%2)))
    refine cY (O':=([dM,iC,dC,eE,gS,im,cM fB Value.bool GV mr,gk,fo,gC]++(bQ 3 ps))) (by rw[show dq (bn o4) l[j4] [(vI ((k3+((k3+(qv (fC p) (l.take j2)))%2):Nat):Int))]=bn (o4.set l[j4] (k3+(k3+qv (fC p) (l.take j2))%2))from(by simp[dq])];exact bj (ay _)) ?_
    refine TO.nl (aJ (ad (bK (b:=1) j4 F F (by omega)) (aS ?_)))
    exact⟨j4+1,by omega,([dM,iC,dC,eE,gS,im,cM fB Value.bool GV mr,gk,fo,gC]++(bQ 3 ps)),(by exact Sub.rf),o4.set l[j4] (k3+(k3+qv (fC p) (l.take j2))%2),F,by omega,by simp[YZ],TU Ik (by omega) hs4 UF,(.of F)⟩
   have UD:fC p l[j4]<qv (fC p) (l.take j2):=Classical.not_not.1 hc
   refine aE (aJ (ad (bK (b:=1) j4 F F (by omega)) (aS ?_)))
   exact⟨j4+1,by omega,([dM,iC,dC,eE,gS,ak rb rc 3 1 (bn o4),cM fB Value.bool GV mr,gk,fo,gC]++(bQ 3 ps)),(by exact Sub.rf),o4,F,by omega,YZ,Qg Ik hs4 UD,(.of F)⟩
  have aep: ¬j4<l.length:=by omega
  refine bA ?_
  have aik:l.take j4=l:=aN (by omega)
  refine aJ (aQ (az (px (a:=jQ) (b:=(k3+((k3+(qv (fC p) (l.take j2)))%2))) F F) (ai (aJ (ad (bK (b:=1) i F F (by omega)) (aS ?_))))))
  refine⟨i+1,by omega,([dM,iC,dC,eE,ak rb rc 3 1 (bn o4),gk,gS,fo,gC]++(bQ 3 ps)),(by exact Sub.k (.k (.k (.k (.dm [gS] _ (.dm [gS,cM fB Value.bool GV mr] _ (.k (.d (.k (.k .rf)))))))))),o4,max jQ (k3+(k3+qv (fC p) (l.take j2))%2),F,by omega,by omega,YZ,?_,(.of F)⟩
  rw[an gf,mB]
  rw[aik]at hs4
  exact hRI.step hdj (show lE (fC p) (fun u=>u∈l) (qv (fC p) (l.take j2)) by rw[aek];exact aej) (by rw[←Qf];exact ZU.V3) (fun v hv=>ZU.out v (fun g=>hv ((Ij v).1 g))) (by rw[←Qf];exact ZU.max) hs4
 have aaM: ¬i<ps.length:=by omega
 refine bA ?_
 refine bI (bm ?_)
 refine aM (vN jQ) results32 F ?_
 have r_:all.take i=all:=aN (by omega)
 rw[r_]at hRI
 exact⟨[dM,iC,dC,eE,gS,ak rb rc 3 1 (bn o2),gC],(by exact Sub.k (.k (.k (.k (.dm [ak rb rc 3 1 (bn o2),gk] _ (.k (.d (.d (.k .z))))))))),o2,jQ,F,F,TQ,hRI.done Dk hS h0⟩
theorem Vv (w:World) [eT prog w] (p:dG) (k:DK) (h:p6 w p k) (hB:nT p):
  cR prog 8 [pV p k] w fun v N=> ∃k9:DK,v=.tuple #[pV (un p) k9,vI (b7 p:Int)]∧N=[pI 22 3 (un p) k9]:=by
 refine aF func8 F ntmps8 F ?_
 have ZO:=hB.n;have ZP:=hB.f
 refine a8 (au (e5 ((pC p k)) (fun z1=>?_)))
 refine au (bO cQ (fun z2=>?_))
 refine bh (bJ (ad (eg 1 underlying34 cQ) (TO.lc wh (aK fun w1 hI=>(haveI:=Inv.tab (P:=prog) hI;mj w1 p k (hI.wT h) hB)) ?_)))
 rintro vr O' ⟨N,rfl,rfl,rfl⟩
 refine ai (bP gB (TO.nl (aH F (fun hc=>?_) (fun hc=>?_))))
 ·have xO:b7 p≠0:=by omega
  refine ba ?_
  refine zz 22 3 ?_
  refine aJ (ad (dy _ nz cQ F) (aQ (au (cE [(vI 0),(vI 0),nS,nS] 1 cQ ?_))))
  refine bm ?_
  refine dT (vI (b7 p:Int)) (i:=1) results8 underlying34 F cQ F F F F ?_
  rw[Y5 (by omega)]
  exact⟨[pI 22 3 JC UM],(by exact Sub.k .z),UM,F,F⟩
 have Uv: ¬b7 p≠0:=by omega
 have wY:b7 p=0:=by omega
 have hv:cU p:=de.1 wY
 have hn4:=hv.n4
 refine aE (aB (bY underlying34 dQ) (ad (bp 1 underlying24) (ad (bV underlying24) (au (cq p.next.length underlying22 bt F F (by omega) (by omega) (fun z3=>?_))))))
 refine au (bO cf (fun z4=>?_))
 let eE:List Value:=[(.slice (aD z3) p.next.length p.next.length)]
 refine au (cE eE 0 cf ?_)
 refine TO.nl (aB (eg 3 underlying34 cQ) (TO.lc VF (aK fun w1 hI=>(haveI:=Inv.tab (P:=prog) hI;ofC w1 p k)) ?_))
 rintro vr O' ⟨N,rfl,gx,rfl,rfl⟩
 refine au (bO yK (fun z5=>?_))
 let dM:List Value:=[vN p.next.length,(.func (.func 81) #[] #[(.pointer (aD gx))])]
 refine au (cE dM 0 yK ?_)
 refine ko (au (bO VB (fun z6=>?_)))
 let dC:List Value:=[(.func (.func 32) #[] #[(.pointer (aD z5)),(.pointer (aD z1)),(.pointer (aD z6)),(.pointer (aD z4))])]
 refine TO.nl (aB (dZ) (au (cE dC 0 VB ?_)))
 refine ko (au (io fB Value.bool (fun GW=>?_)))
 refine bh (bJ (ad (bY underlying34 dQ) (ad (bp 7 underlying24) (ad (bV underlying24) (aS (aw ?_))))))
 refine cS (fun(s:Nat) ρ O=> ∃(mm:List (Int×Bool)),O=[cM fB Value.bool GW mm,oI z6 82 dC,oI z5 80 dM,oI gx 34 (pC p k),oI z4 22 eE,aU z3 p.next.length 3 1 (List.replicate p.next.length (vI 0)),oI z2 34 [(vI 0),(vI 0),nS,nS],oI z1 34 (pC p k)]∧s≤p.next.length∧(∀u,tF mm u=decide (u<s))∧cL [(0,(pV p k)),(1,(.pointer (aD z1))),(2,(.pointer (aD z2))),(3,vI 0),(4,vI (b7 p:Int)),(5,(.pointer (aD z4))),(6,(.pointer (aD z5))),(7,(.pointer (aD z6))),(8,(.map (some GW))),(26,vI (p.next.length:Int)),(27,vN s)] ρ) (fun s=>p.next.length-s) 0 ?_ ?_
 ·exact⟨[],F,aG _,(fun u=>by simp[JO]),(.of F)⟩
 rintro s ρ O ⟨mm,rfl,hs,ZF,hH⟩
 obtain⟨fy,rfl⟩:=hH.elim
 clear hH
 refine aB cH (TO.ns (aH F (fun hc=>?_) (fun hc=>?_)))
 ·have xD:s<p.next.length:=by omega
  refine aE (ba (aw (bI (ai (aJ (dr (au (oO (K:=fB) (V:=Value.bool) (a:=((s:Nat):Int)) (v:=true) 0 underlying83 (fZ.int underlying3) (sbY _) F F F F ?_))))))))
  refine TO.nl (aJ (ad (bK (b:=1) s F F (by omega)) (aS ?_)))
  exact⟨s+1,by omega,[cM fB Value.bool GW (gH ((s:Nat):Int) true mm),oI z6 82 dC,oI z5 80 dM,oI gx 34 (pC p k),oI z4 22 eE,aU z3 p.next.length 3 1 (List.replicate p.next.length (vI 0)),oI z2 34 [(vI 0),(vI 0),nS,nS],oI z1 34 (pC p k)],(by exact Sub.rf),gH ((s:Nat):Int) true mm,F,by omega,Y6 ZF,(.of F)⟩
 have Mt: ¬s<p.next.length:=by omega
 refine bA ?_
 refine ba ?_
 have JZ:s=p.next.length:=by omega
 have Vn: ∀u,tF mm u=true→u<p.next.length:=fun u hu=>by rw[ZF u]at hu;have:=of_decide_eq_true hu;omega
 refine cV (O':=[cM fB Value.bool GW mm,oI z6 82 dC,oI z5 80 dM,oI gx 34 (pC p k),oI z4 22 eE,aU z3 p.next.length 3 1 (bn (List.replicate p.next.length 0)),oI z2 34 [(vI 0),(vI 0),nS,nS],oI z1 34 (pC p k)]) (by rw[tq];exact Sub.rf) ?_
 refine aJ (ad (bp 1 underlying82) (aQ ?_))
 have Ge:=dS.under (A:=[oI z5 80 dM,oI z1 34 (pC p k),oI z6 82 dC,oI z4 22 eE,oI gx 34 (pC p k),aU z3 p.next.length 3 1 (bn (List.replicate p.next.length 0)),cM fB Value.bool GW mm]) (B:=[oI z2 34 [(vI 0),(vI 0),nS,nS]]) (O:=[cM fB Value.bool GW mm,oI z6 82 dC,oI z5 80 dM,oI gx 34 (pC p k),oI z4 22 eE,aU z3 p.next.length 3 1 (bn (List.replicate p.next.length 0)),oI z2 34 [(vI 0),(vI 0),nS,nS],oI z1 34 (pC p k)]) (b_ (first:=[]) (args:=[(.map (some GW))]) (fU:=[(.pointer (aD z5)),(.pointer (aD z1)),(.pointer (aD z6)),(.pointer (aD z4))]) VG (TP w p k h hv z5 z1 z6 z4 gx (aD z3) p.next.length _ mm GW (List.replicate p.next.length 0) F Vn (by simp) (fun u _=>Qu _ u))) (by exact Sub.dm [cM fB Value.bool GW mm,oI z6 82 dC] _ (.dm [cM fB Value.bool GW mm,oI z6 82 dC,oI gx 34 (pC p k),oI z4 22 eE,aU z3 p.next.length 3 1 (bn (List.replicate p.next.length 0)),oI z2 34 [(vI 0),(vI 0),nS,nS]] _ (.dm [cM fB Value.bool GW mm] _ (.dm [cM fB Value.bool GW mm,oI gx 34 (pC p k)] _ (.dm [cM fB Value.bool GW mm] _ (.dm [cM fB Value.bool GW mm] _ (.k (.k .z))))))))
 refine au (et Ge F F ?_)
 clear Ge
 rintro vr O' ⟨A1,rfl,o2,jQ,rfl,rfl,TQ,ZU⟩
 obtain⟨M,hM⟩: ∃m,lD p (fun s=>((fn o2 s:Nat):Int))=m:=⟨_,F⟩
 have UT:un p=M:=(Ii wY (ZU.of (fun v=>⟨Vn v,fun DC=>by rw[ZF v];exact bz (by omega)⟩))).trans hM
 refine TO.nl (aB (eg 1 underlying34 cQ) (ad (dZ) ?_))
 let fo:List Value:=[vN p.next.length,(.func (.func 81) #[] #[(.pointer (aD gx))])]
 have rD:=cZ.under (A:=[oI z4 22 [(.slice (aD z3) p.next.length p.next.length)],aU z3 p.next.length 3 1 (bn o2)]) (B:=[oI z5 80 fo,oI z1 34 (pC p k),oI z6 82 dC,oI gx 34 (pC p k),cM fB Value.bool GW mm,oI z2 34 [(vI 0),(vI 0),nS,nS]]) (O:=[oI z5 80 fo,oI z1 34 (pC p k),oI z6 82 dC,oI z4 22 [(.slice (aD z3) p.next.length p.next.length)],oI gx 34 (pC p k),aU z3 p.next.length 3 1 (bn o2),cM fB Value.bool GW mm,oI z2 34 [(vI 0),(vI 0),nS,nS]]) (show cZ _ _ _ _ _ _ from by
   have h9:=Wb w p k h hv [oI z4 22 [(.slice (aD z3) p.next.length p.next.length)],aU z3 p.next.length 3 1 (bn o2)] (.func (.func 36) #[] #[(.pointer (aD z4))]) (fun s=>((fn o2 s:Nat):Int)) (fun s hs=>b_ (first:=[]) (args:=[vN s]) (fU:=[(.pointer (aD z4))]) ada (aig w p.next.length z4 (aD z3) p.next.length o2 TQ s hs))
   rw[hM]at h9
   exact h9) (by exact Sub.dm [oI z5 80 [vN p.next.length,(.func (.func 81) #[] #[(.pointer (aD gx))])],oI z1 34 (pC p k),oI z6 82 [(.func (.func 32) #[] #[(.pointer (aD z5)),(.pointer (aD z1)),(.pointer (aD z6)),(.pointer (aD z4))])]] _ (.dm [oI z5 80 [vN p.next.length,(.func (.func 81) #[] #[(.pointer (aD gx))])],oI z1 34 (pC p k),oI z6 82 [(.func (.func 32) #[] #[(.pointer (aD z5)),(.pointer (aD z1)),(.pointer (aD z6)),(.pointer (aD z4))])],oI gx 34 (pC p k)] _ (.k (.k (.k (.k (.k (.k .z))))))))
 refine TO.lc VI rD ?_
 clear rD
 rintro vr O' ⟨A1,rfl,k1,rfl,rfl⟩
 refine au (cE ((pC M k1)) 8 cQ ?_)
 refine bm ?_
 refine dT (vI 0) (i:=8) results8 underlying34 F cQ F F F F ?_
 rw[UT,wY]
 exact⟨[pI 22 3 M k1],(by exact Sub.k .z),k1,F,F⟩
theorem TY (w:World) [eT prog w] (b:Option Addr) (c:Nat) (l:List Nat) (h:Sl w b (bn l)) (hb:l.length<1000000) (v:Nat) (hm:v∉l):
  cR prog 83 [.slice b l.length c,vN v] w fun r N=>r=vI (-1)∧N=[]:=by
 refine aF func83 F ntmps83 F ?_
 refine a8 (bh (bJ (az (bV underlying22) (aS (aw ?_)))))
 refine cX (fun(i:Nat) ρ O=>O=[]∧i≤l.length∧cL [(0,(.slice b l.length c)),(1,vN v),(7,vI (l.length:Int)),(8,vN i)] ρ) (fun i=>l.length-i) 0 ?_ ?_
 ·exact⟨F,aG _,⟨F,F,F,F,trivial⟩⟩
 rintro i ρ O ⟨rfl,hi,hH⟩
 obtain⟨fy,rfl⟩:=hH.elim
 clear hH
 refine aB cH (TO.ns (aH F (fun hc=>?_) (fun hc=>?_)))
 ·have j7:i<l.length:=by omega
  have gf:i<l.length:=by omega
  have mC:l[i]≠v:=fun e=>hm (e▸ap gf)
  refine aE (ba (aw (bI (ai (bI (aQ (az (b8 i underlying22 bt F F (bS h)) (ad (eA underlying3 F F h dK) (bF en (aH F (fun hc=>?_) (fun hc=>?_)))))))))))
  ·have IF:v=l[i]:=by omega
   refine bI (bm ?_)
   refine aM (vN i) results83 F ?_
   exact absurd (show l[i]=v by omega) mC
  have IG: ¬v=l[i]:=by omega
  refine aE (aJ (ad (bK (b:=1) i F F (by omega)) (aS ?_)))
  exact⟨i+1,by omega,F,by omega,⟨F,F,F,F,trivial⟩⟩
 have J5: ¬i<l.length:=by omega
 refine bA ?_
 refine a8 (bm ?_)
 refine aM (vI (-1)) results83 F ?_
 exact⟨[],Sub.z,F,F⟩
theorem LY (w:World) [eT prog w] (b:Option Addr) (c:Nat) (l:List Nat) (h:Sl w b (bn l)) (hb:l.length<1000000) (v:Nat) (hm:v∈l):
  cR prog 51 [.slice b l.length c,vN v] w fun r N=>r=.bool true∧N=[]:=by
 refine aF func51 F ntmps51 F ?_
 refine a8 (ai (bI (aQ (TO.lc Ov (aK fun w1 hI=>(haveI:=Inv.tab (P:=prog) hI;P1 w1 b c l (hI.sl h) hb v hm)) ?_))))
 rintro vr O' ⟨N,rfl,⟨ix9,QQ,aed,aee,rfl⟩,rfl⟩
 refine ad ly (bm ?_)
 refine aM (.bool (decide (((ix9:Nat):Int)≥0))) results51 F ?_
 exact⟨[],Sub.z,av Value.bool (by simp),F⟩
theorem Io (w:World) [eT prog w] (b:Option Addr) (c:Nat) (l:List Nat) (h:Sl w b (bn l)) (hb:l.length<1000000) (v:Nat) (hm:v∉l):
  cR prog 51 [.slice b l.length c,vN v] w fun r N=>r=.bool false∧N=[]:=by
 refine aF func51 F ntmps51 F ?_
 refine a8 (ai (bI (aQ (TO.lc Ov (aK fun w1 hI=>(haveI:=Inv.tab (P:=prog) hI;TY w1 b c l (hI.sl h) hb v hm)) ?_))))
 rintro vr O' ⟨N,rfl,rfl,rfl⟩
 refine ad ly (bm ?_)
 refine aM (.bool (decide ((-1)≥0))) results51 F ?_
 exact⟨[],Sub.z,av Value.bool (by simp),F⟩
theorem BJ (w:World) [eT prog w] [eT prog w] (b:Option Addr) (c:Nat) (l:List Nat) (h:Sl w b (bn l)) (hb:l.length<1000000) (v:Nat):
  cR prog 51 [.slice b l.length c,vN v] w fun r N=>r=.bool (decide (v∈l))∧N=[]:=by
 by_cases hm:v∈l
 ·rw[bz hm];exact LY w b c l h hb v hm
 ·rw[bT hm];exact Io w b c l h hb v hm
theorem aim (base:World) [eT prog base] (u:Nat):cZ prog base 91 [vN u] [] (fun v O'=>v=.bool (decide ((fun _:Nat=>true) u=true))∧O'=[]):=by
 refine aF func91 F ntmps91 F ?_
 refine a8 (ai (a8 (ai (cF ?_))))
 refine aM (.bool true) results91 F ?_
 exact⟨F,F⟩
theorem ain (base:World) [eT prog base] (sb s u:Nat):cZ prog base 95 [vN u,(.pointer (aD sb))] [oI sb 3 [vN s]] (fun v O'=>v=.bool (decide ((fun u:Nat=>decide (u=s)) u=true))∧O'=[oI sb 3 [vN s]]):=by
 refine aF func95 F ntmps95 F ?_
 refine a8 (ai (bP (bp 0 underlying3) (ad en (ai (cF ?_)))))
 refine aM (.bool (decide (((u:Nat):Int)=((s:Nat):Int)))) results95 F ?_
 exact⟨av Value.bool (decide_eq_decide.2 (by simp only[bo];omega)),F⟩
theorem aew (base:World) [eT prog base] (sb s u:Nat):cZ prog base 96 [vN u,(.pointer (aD sb))] [oI sb 3 [vN s]] (fun v O'=>v=.bool (decide ((fun u:Nat=>decide (u=s)) u=true))∧O'=[oI sb 3 [vN s]]):=by
 refine aF func96 F ntmps96 F ?_
 refine a8 (ai (bP (bp 0 underlying3) (ad en (ai (cF ?_)))))
 refine aM (.bool (decide (((u:Nat):Int)=((s:Nat):Int)))) results96 F ?_
 exact⟨av Value.bool (decide_eq_decide.2 (by simp only[bo];omega)),F⟩
theorem inF (base:World) [eT prog base] (pb:Nat) (b:Option Addr) (c:Nat) (l:List Nat) (hb:l.length<1000000) (OO:List Lx.Item) (hS: ∀w,Inv base ([oI pb 22 [(.slice b l.length c)]]++OO) w→Sl w b (bn l)) (u:Nat):
  cZ prog base 93 [vN u,(.pointer (aD pb))] ([oI pb 22 [(.slice b l.length c)]]++OO) (fun v O'=>v=.bool (decide ((fun u:Nat=>decide (u∈l)) u=true))∧O'=[oI pb 22 [(.slice b l.length c)]]++OO):=by
 refine aF func93 F ntmps93 F ?_
 refine a8 (ai (aB (bp 0 underlying22) (aQ (TO.lc Ff (aK fun w1 hI=>(haveI:=Inv.tab (P:=prog) hI;BJ w1 b c l (hS w1 hI) hb u)) ?_))))
 rintro vr O' ⟨N,rfl,rfl,rfl⟩
 refine ai (cF ?_)
 refine aM (.bool (decide (u∈l))) results93 F ?_
 exact⟨av Value.bool (decide_eq_decide.2 (by simp only[bo])),F⟩
theorem aio (base:World) [eT prog base] (mb m ab:Nat) (ks:List Nat) (iB:Value) (al:Nat→Bool) (OO:List Lx.Item) (u:Nat) (yp:dS prog base iB [vN u] OO (fun v O'=>v=.bool (decide (al u=true))∧O'=OO)):
  cZ prog base 92 [vN u,(.pointer (aD mb)),(.pointer (aD ab))] ([oI mb 83 [(.map (some m))],cM fB Value.bool m (iP ks),oI ab 85 [iB]]++OO) (fun v O'=>v=.bool (decide ((decide (u∈ks)&&al u)=true))∧O'=[oI mb 83 [(.map (some m))],cM fB Value.bool m (iP ks),oI ab 85 [iB]]++OO):=by
 refine aF func92 F ntmps92 F ?_
 refine a8 (ai (aB (bp 0 underlying83) (az (bH (jy (K:=fB) (V:=Value.bool) (a:=((u:Nat):Int)) underlying83 eW (fZ.int underlying3) F F (mG 1)) (v':=.bool (decide (u∈ks))) (by rw[←JR ks u];cases eN ((u:Nat):Int) (iP ks)with|none=>rfl|some b=>cases b<;>rfl)) ?_)))
 by_cases h8:u∈ks
 ·refine ad (cm aC h8) ?_
  refine ax (bp 2 underlying85) (ax aC ?_)
  have N4:=eY [oI mb 83 [(.map (some m))],cM fB Value.bool m (iP ks),oI ab 85 [iB]] yp
  refine fD F F F (et N4 F F ?_)
  clear N4
  rintro vr O' ⟨rfl,rfl⟩
  refine ad bR (ai (cF ?_))
  refine aM (.bool (decide (al u=true))) results92 F ?_
  exact⟨av Value.bool (decide_eq_decide.2 (by simp[h8])),F⟩
 refine ad (cD aC h8) (dt (dj (ad ca (ai (cF ?_)))))
 refine aM (.bool false) results92 F ?_
 exact⟨av Value.bool (show false=_ by simp[h8]),F⟩
theorem ad3 (base:World) [eT prog base] (d:fx) (nb:Option Addr) (nc:Nat) (vs:List Value) (hS:Sl base nb vs) (hr:iY base vs d.next) (hv:Val d) (hn:d.next.length≤4096) (hw6:dF d≤64) (OO:List Lx.Item) (al to:Nat→Bool) (iB PJ:Value)
  (yp: ∀t,t<d.next.length→dS prog base iB [vI ((t:Nat):Int)] OO (fun v O'=>v=.bool (decide (al t=true))∧O'=OO)) (wS: ∀t,t<d.next.length→dS prog base PJ [vI ((t:Nat):Int)] OO (fun v O'=>v=.bool (decide (to t=true))∧O'=OO))
  (gD:Nat) (Kp:gD<d.next.length) (hex: ∃(Q:Nat→Prop) (t:Nat),(∀v,Q v→al v=true)∧to t=true∧((true=false∧gL (lX (DE d) Q) gD t)∨ ∃c,lX (DE d) Q gD c∧gL (lX (DE d) Q) c t)):
  cZ prog base 94 [.slice nb d.next.length nc,vI ((gD:Nat):Int),.bool true,iB,PJ] OO (fun v O'=> ∃w t b c,rC d al to gD true w t∧v=.tuple #[.slice b w.length c,vI ((t:Nat):Int)]∧O'=ak b c 5 1 (ek w)::OO):=by
 refine aF func94 F ntmps94 F ?_
 have qw:=hr.1
 have hwd:dF d≤64:=hw6
 refine a8 (bh (bh (bJ (az gM (aQ (dt (dj (ad ca ?_))))))))
 refine TO.nl (cK (aE (a8 (au (io fB Value.bool (fun oE=>?_))))))
 refine aQ (az gM (au (jD (a:=((gD:Nat):Int)) (v:=!true) 0 underlying83 (fZ.int underlying3) F F F F (by simp) ?_)))
 refine aQ (ai (bP (dy [vI ((gD:Nat):Int),vI (-1),.int .u8 0] xh jX (by kernel_rfl)) (au (cW (m:=1) (parts:=[(0,_)]) (cs:=[vI ((gD:Nat):Int),vI (-1),.int .u8 0]) underlying172 jX (by decide) (by kernel_rfl) F (fun z2=>?_)))))
 refine bh (bJ (ai (aw ?_)))
 have UA:true=false→to gD=false:=fun h=>by first|exact absurd h (by decide)|exact Bool.eq_false_iff.2 h23
 refine cS (fun(i:Nat) ρ O=> ∃(sb:Option Addr) (sc:Nat) (st:List tE) (m:List (Int×Bool)),O=([ak sb sc 171 3 (iL st),cM fB Value.bool oE m]++OO)∧i≤st.length∧uK d al to gD true st i 0∧rE true gD st m∧cL [(0,(.slice nb d.next.length nc)),(1,vI ((gD:Nat):Int)),(2,.bool true),(3,iB),(4,PJ),(10,nS),(12,(.map (some oE))),(13,(.slice sb st.length sc)),(14,vI ((i:Nat):Int))] ρ) (fun i=>d.next.length+1-i) 0 ?_ ?_
 ·exact⟨(aD z2),1,[(gD, -1,0)],[(((gD:Nat):Int),!true)],F,aG _,uK.start Kp UA,rE.start true gD,(.of F)⟩
 rintro i ρ O ⟨sb,sc,st,m,rfl,hi,hB,hM,hH⟩
 obtain⟨fy,rfl⟩:=hH.elim
 clear hH
 have mK:=hB.len
 refine ba (bI (az (bV underlying172) (bF cH (aH F (fun hc=>?_) (fun hc=>?_)))))
 ·have AB:i<st.length:=by omega
  have p9:i<st.length:=by omega
  obtain⟨q9,Dg⟩: ∃q,st[i]=q:=⟨_,F⟩
  have pS:st[i]? =some q9:=by rw[ah p9,Dg]
  have DF:q9.1<d.next.length:=hB.lt _ (Dg▸ap p9)
  obtain⟨v1,c1,g1,s1⟩:=hr.get DF
  have uf:d.next[q9.1].length=dF d:=hv.len _ (ap DF)
  refine aE (ba (aw (bI (aQ (az (fO (i:=i) underlying172 jX F F (bU 0) (by first|assumption|omega|(simp;omega)|simp_all) (by first|(rw[ft];omega)|(simp[ft];omega)|(simp_all[ft];omega))) (ad (ez underlying171 F bt F F (bU 0) (by first|(rw[ft];omega)|(simp[ft];omega)|(simp_all[ft];omega))) (ad (dR underlying3 F F (bU 0) ((rS p9 0 (by decide)).trans (by rw[Dg];rfl))) (ad (b8 q9.1 underlying24 cf F F (bS hS) DF (qw▸DF)) (ad (eA underlying22 F F hS g1) (ad (bV underlying22) (aS (aw ?_))))))))))))
  refine cS (fun(x:Nat) ρ O=> ∃(sb:Option Addr) (sc:Nat) (st:List tE) (m:List (Int×Bool)),O=([ak sb sc 171 3 (iL st),cM fB Value.bool oE m]++OO)∧x≤dF d∧i<st.length∧st[i]? =some q9∧uK d al to gD true st i x∧rE true gD st m∧cL [(0,(.slice nb d.next.length nc)),(1,vI ((gD:Nat):Int)),(2,.bool true),(3,iB),(4,PJ),(10,nS),(12,(.map (some oE))),(13,(.slice sb st.length sc)),(14,vI ((i:Nat):Int)),(47,(.slice v1 d.next[q9.1].length c1)),(48,vI (d.next[q9.1].length:Int)),(49,vI ((x:Nat):Int))] ρ) (fun x=>dF d-x) 0 ?_ ?_
  ·exact⟨sb,sc,st,m,F,aG _,p9,pS,hB,hM,(.of F)⟩
  rintro x ρ O ⟨sb,sc,st,m,rfl,hx,p9,pS,hB,hM,hH⟩
  obtain⟨fy,rfl⟩:=hH.elim
  clear hH
  have mK:=hB.len
  obtain⟨b9,Ga⟩: ∃b,(eN ((di d q9.1 x:Nat):Int) m).getD false=b:=⟨_,F⟩
  refine aB cH (TO.ns (aH F (fun hc=>?_) (fun hc=>?_)))
  ·have j8:x<d.next[q9.1].length:=by omega
   have jm:x<dF d:=by omega
   obtain⟨uO,_,lM,ru⟩:=hv.fG DF jm
   have ru:(ints d.next[q9.1])[x]? =some (vI ((di d q9.1 x:Nat):Int)):=by rw[eu lM,ru]
   refine aE (ba (aw (bP (b8 x underlying22 bt F F (bS s1) lM (by rw[ag];exact lM)) (ad (eA underlying3 F F s1 ru) (bh (bh (bJ (aQ (az (bH (jy (a:=((di d q9.1 x:Nat):Int)) underlying83 eW (fZ.int underlying3) F F (mG 1)) (v':=.bool (decide (b9=true))) (by rw[←Ga];cases eN ((di d q9.1 x:Nat):Int) m with|none=>rfl|some b=>cases b<;>rfl)) ?_)))))))))
   by_cases PK:b9=true
   ·refine ad (cm aC PK) ?_
    refine cP (bF bR ?_)
    refine cJ ?_
    refine bA ?_
    refine aJ (ad (bK (b:=1) x F F (by omega)) (aS ?_))
    let gC:List Lx.Item:=[ak sb sc 171 3 (iL st),cM fB Value.bool oE m]
    exact⟨x+1,by omega,(gC++OO),(dx [0,0] gC OO F F),sb,sc,st,m,F,by omega,p9,pS,hB.skip pS (fun h=>by first|exact absurd h Hq|exact(hM _).1 (Ga.trans PK)),hM,(.of F)⟩
   refine ad (cD aC PK) (ax aC (ax aC ?_))
   by_cases Hq:al (di d q9.1 x)=true
   ·have rj:=eY [ak sb sc 171 3 (iL st),cM fB Value.bool oE m] (yp (di d q9.1 x) uO)
    refine fD F F F (et rj F F ?_)
    clear rj
    rintro vr O' ⟨rfl,rfl⟩
    rw[bz Hq]
    refine ax gM (bF ca (cK (aE (ba ?_))))
    have Li: ¬kJ true gD st (di d q9.1 x):=fun g=>PK (Ga.symm.trans ((hM _).2 g))
    refine aJ (dr (au (oO (K:=fB) (V:=Value.bool) (a:=((di d q9.1 x:Nat):Int)) (v:=true) 1 underlying83 (fZ.int underlying3) (sbY _) F F F F ?_)))
    let eE:Value:=vI ((di d q9.1 x:Nat):Int)
    let fo:Value:=.int .u8 ((x:Nat):Int)
    refine TO.nl (bI (dr (az (jj underlying3 underlying5 F (EJ (by omega))) (ad (dy [eE,vI ((i:Nat):Int),fo] xh jX (by kernel_rfl)) (au (cW (m:=1) (parts:=[(0,_)]) (cs:=[eE,vI ((i:Nat):Int),fo]) underlying172 jX (by decide) (by kernel_rfl) F (fun z3=>?_)))))))
    refine au (dp 1 underlying172 underlying172 jX F F F F (ft st) (by decide) (Src.row (j:=0) F (by simp)) (by simp[fL]) (by omega) (by decide) (by decide) (fun z4 v_=>?_))
    refine bh (bJ (dr ?_))
    let dC:List Lx.Item:=[aU z3 1 171 3 [vI ((di d q9.1 x:Nat):Int),vI ((i:Nat):Int),.int .u8 ((x:Nat):Int)],ak z4 v_ 171 3 ((iL st)++[vI ((di d q9.1 x:Nat):Int),vI ((i:Nat):Int),.int .u8 ((x:Nat):Int)]),cM fB Value.bool oE (gH ((di d q9.1 x:Nat):Int) true m)]
    have PL:=eY dC (wS (di d q9.1 x) uO)
    refine au (et PL F F ?_)
    clear PL
    rintro vr O' ⟨rfl,rfl⟩
    refine bF gM (aH (p:= ¬to (di d q9.1 x)=true) (av Value.bool (by simp)) (fun hc=>?_) (fun hc=>?_))
    ·have YK:to (di d q9.1 x)=false:=Bool.eq_false_iff.2 hc
     refine bA ?_
     refine aJ (ad (bK (b:=1) x F F (by omega)) (aS ?_))
     refine⟨x+1,by omega,([ak z4 v_ 171 3 ((iL st)++[eE,vI ((i:Nat):Int),fo]),cM fB Value.bool oE (gH ((di d q9.1 x:Nat):Int) true m)]++OO),(dx [1,1] dC OO F F),z4,v_,st++[(di d q9.1 x,(i:Int),x)],gH ((di d q9.1 x:Nat):Int) true m,?_,by omega,by simp;omega,?_,hB.push pS jm F uO Hq Li YK,hM.put hB.pos _ _ _,?_⟩
     ·rw[uP]
     ·rw[bG p9];exact pS
     ·rw[aI];exact(.of F)
    have YL:to (di d q9.1 x)=true:=Classical.not_not.1 hc
    obtain⟨He,Jj⟩:=hB.nK pS jm F Hq
    have Gb:=hB.PA uO Li
    refine aE (ba (ba ?_))
    have kB:(st++[(di d q9.1 x,(i:Int),x)]).length=st.length+1:=by simp
    refine cV (O':=[ak z4 v_ 171 3 (iL (st++[(di d q9.1 x,(i:Int),x)])),cM fB Value.bool oE (gH ((di d q9.1 x:Nat):Int) true m)]++OO) (by rw[uP];exact fq [aU z3 1 171 3 [vI ((di d q9.1 x:Nat):Int),vI ((i:Nat):Int),.int .u8 ((x:Nat):Int)]]) ?_
    refine aJ (az (bV underlying172) (ad (bH (il (a:=st.length+1) (b:=1) F F (by omega) (by omega)) (v':=vI ((st.length:Nat):Int)) (by simp)) (ai (aw (T.dH 5 1 ?_)))))
    refine cS (fun(kk:Nat) ρ O=> ∃(wb:Option Addr) (wc:Nat) (w:List Nat),O=([ak wb wc 5 1 (ek w),ak z4 v_ 171 3 (iL (st++[(di d q9.1 x,(i:Int),x)])),cM fB Value.bool oE (gH ((di d q9.1 x:Nat):Int) true m)]++OO)∧kk≤st.length∧Pz d al (st++[(di d q9.1 x,(i:Int),x)]) st.length kk w (di d q9.1 x)∧(kk=st.length→w=[])∧(kk≠st.length→w≠ [])∧cL [(0,(.slice nb d.next.length nc)),(1,vI ((gD:Nat):Int)),(2,.bool true),(3,iB),(4,PJ),(10,(.slice wb w.length wc)),(12,(.map (some oE))),(13,(.slice z4 (st.length+1) v_)),(14,vI ((i:Nat):Int)),(15,vI ((x:Nat):Int)),(16,vI ((di d q9.1 x:Nat):Int)),(17,vI ((kk:Nat):Int)),(47,(.slice v1 d.next[q9.1].length c1)),(48,vI (d.next[q9.1].length:Int)),(49,vI ((x:Nat):Int))] ρ) (fun kk=>kk) st.length ?_ ?_
    ·exact⟨none,0,[],F,aV _,He,fun _=>rfl,fun h=>absurd F h,(.of F)⟩
    rintro kk ρ O ⟨wb,wc,w,rfl,yG,Mp,AN,AO,hH⟩
    obtain⟨fy,rfl⟩:=hH.elim
    clear hH
    refine ba (bP fg (TO.nl (aH F (fun hc=>?_) (fun hc=>?_))))
    ·have ad5:kk>0:=by omega
     have AF:kk<(st++[(di d q9.1 x,(i:Int),x)]).length:=by omega
     obtain⟨j9,q8,hq8,hj9,YM,UX⟩: ∃(j9:Nat) (q8:tE),(st++[(di d q9.1 x,(i:Int),x)])[kk]? =some q8∧q8.2.1=(j9:Int)∧Pz d al (st++[(di d q9.1 x,(i:Int),x)]) st.length j9 (w++[q8.2.2]) (di d q9.1 x)∧j9<kk:=by
      by_cases e:kk=st.length
      ·subst e
       exact⟨i,(di d q9.1 x,(i:Int),x),by rw[bN (aV _)];simp,F,by rw[AN F];exact Jj,p9⟩
      ·obtain⟨j9,q8,a1,a2,a3,a4⟩:=Mp.step hB (by omega) (by omega)
       exact⟨j9,q8,a1,a2,a3,a4⟩
     rw[ah AF]at hq8
     have PN:=cg hq8
     refine aE (ba (aw (aJ (dr (az (fO (i:=kk) underlying172 jX F F (bU 1) (kB▸AF) (by rw[ft];omega)) (ad (ez underlying171 F fS F F (bU 1) (by first|(rw[ft];omega)|(simp[ft];omega)|(simp_all[ft];omega))) (ad (dR underlying5 F F (bU 1) ((rS AF 2 (by decide)).trans (by rw[PN];rfl))) (au (dv (v:=.int .u8 ((q8.2.2:Nat):Int)) underlying27 fS F F F (fun z6=>?_))))))))))
     refine au (dp 1 underlying27 underlying27 fS F F F F (by rw[ag,Nat.mul_one]) (by decide) (Src.row (j:=0) F (by simp)) (by simp[fL]) (by have:=Mp.len;omega) (by decide) (by decide) (fun z7 z_=>?_))
     refine ai (aJ (aQ (az (fO (i:=kk) underlying172 jX F F (bU 2) (kB▸AF) (by rw[ft];omega)) (ad (ez underlying171 F bt F F (bU 2) (by first|(rw[ft];omega)|(simp[ft];omega)|(simp_all[ft];omega))) (ad (dR underlying3 F F (bU 2) ((rS AF 1 (by decide)).trans (by rw[PN];show some (Value.int .i64 q8.2.1)=_;rw[hj9]))) (ai ?_))))))
     let dM:Lx.Item:=ak z7 z_ 5 1 ((ek w)++[.int .u8 ((q8.2.2:Nat):Int)])
     exact⟨j9,UX,([dM,ak z4 v_ 171 3 (iL (st++[(di d q9.1 x,(i:Int),x)])),cM fB Value.bool oE (gH ((di d q9.1 x:Nat):Int) true m)]++OO),(dx [1,1,1] [aU z6 1 5 1 [.int .u8 ((q8.2.2:Nat):Int)],dM,ak z4 v_ 171 3 (iL (st++[(di d q9.1 x,(i:Int),x)])),cM fB Value.bool oE (gH ((di d q9.1 x:Nat):Int) true m)] OO F F),z7,z_,w++[q8.2.2],by rw[show ek (w++[q8.2.2])=ek w++[.int .u8 ((q8.2.2:Nat):Int)] by simp],by omega,YM,fun h=>absurd h (by omega),fun _=>by simp,by rw[aI];exact(.of F)⟩
    have ad7: ¬kk>0:=by omega
    refine bA ?_
    refine bI ?_
    have PO:=cZ.under (A:=[ak wb wc 5 1 (ek w)]) (B:=[ak z4 v_ 171 3 (iL (st++[(di d q9.1 x,(i:Int),x)])),cM fB Value.bool oE (gH ((di d q9.1 x:Nat):Int) true m)]++OO) (O:=([ak wb wc 5 1 (ek w),ak z4 v_ 171 3 (iL (st++[(di d q9.1 x,(i:Int),x)])),cM fB Value.bool oE (gH ((di d q9.1 x:Nat):Int) true m)]++OO)) (F9 base wb wc wc w (by have:=Mp.len;omega)) (fq [])
    refine TO.lc Ox PO ?_
    clear PO
    rintro vr O' ⟨A1,rfl,rfl⟩
    refine TO.nl (bI (aQ (bh (bm ?_))))
    refine fJ (.slice wb w.length wc) (vI ((di d q9.1 x:Nat):Int)) results94 F F ?_
    have yM:kk=0:=by omega
    subst yM
    have K_:=Mp.done hB Gb (AO (by have:=hB.pos;omega)) YL
    exact⟨ak wb wc 5 1 (ek w.reverse)::OO,fq [ak z4 v_ 171 3 (iL (st++[(di d q9.1 x,(i:Int),x)])),cM fB Value.bool oE (gH ((di d q9.1 x:Nat):Int) true m)],w.reverse,_,wb,wc,K_,by rw[List.length_reverse],F⟩
   have rj:=eY [ak sb sc 171 3 (iL st),cM fB Value.bool oE m] (yp (di d q9.1 x) uO)
   refine fD F F F (et rj F F ?_)
   clear rj
   rintro vr O' ⟨rfl,rfl⟩
   rw[bT Hq]
   refine ax gM (bF ca ?_)
   refine cJ ?_
   refine bA ?_
   refine aJ (ad (bK (b:=1) x F F (by omega)) (aS ?_))
   exact⟨x+1,by omega,([ak sb sc 171 3 (iL st),cM fB Value.bool oE m]++OO),(dx [0,0] [ak sb sc 171 3 (iL st),cM fB Value.bool oE m] OO F F),sb,sc,st,m,F,by omega,p9,pS,hB.skip pS (fun h=>by first|exact absurd h Hq|exact(hM _).1 (Ga.trans PK)),hM,(.of F)⟩
  have IE: ¬x<d.next[q9.1].length:=by omega
  refine bA ?_
  refine aJ (az (bK (b:=1) i F F (by omega)) (ai ?_))
  have SG:x=dF d:=by omega
  subst SG
  exact⟨i+1,by omega,([ak sb sc 171 3 (iL st),cM fB Value.bool oE m]++OO),(dx [0,0] [ak sb sc 171 3 (iL st),cM fB Value.bool oE m] OO F F),sb,sc,st,m,F,by omega,hB.next,hM,(.of F)⟩
 have IB: ¬i<st.length:=by omega
 refine bA ?_
 refine a8 (bh (bm ?_))
 refine fJ nS (vI (-1)) results94 F F ?_
 have r_:i=st.length:=by omega
 subst r_
 obtain⟨Q,t,e1,e2,e3⟩:=hex
 exact(hB.none e1 e2 e3).elim
theorem PP (base:World) [eT prog base] (d:fx) (nb:Option Addr) (nc:Nat) (vs:List Value) (hS:Sl base nb vs) (hr:iY base vs d.next) (hv:Val d) (hn:d.next.length≤4096) (hw6:dF d≤64) (OO:List Lx.Item) (al to:Nat→Bool) (iB PJ:Value)
  (yp: ∀t,t<d.next.length→dS prog base iB [vI ((t:Nat):Int)] OO (fun v O'=>v=.bool (decide (al t=true))∧O'=OO)) (wS: ∀t,t<d.next.length→dS prog base PJ [vI ((t:Nat):Int)] OO (fun v O'=>v=.bool (decide (to t=true))∧O'=OO))
  (gD:Nat) (Kp:gD<d.next.length) (hex: ∃(Q:Nat→Prop) (t:Nat),(∀v,Q v→al v=true)∧to t=true∧((false=false∧gL (lX (DE d) Q) gD t)∨ ∃c,lX (DE d) Q gD c∧gL (lX (DE d) Q) c t)):
  cZ prog base 94 [.slice nb d.next.length nc,vI ((gD:Nat):Int),.bool false,iB,PJ] OO (fun v O'=> ∃w t b c,rC d al to gD false w t∧v=.tuple #[.slice b w.length c,vI ((t:Nat):Int)]∧O'=ak b c 5 1 (ek w)::OO):=by
 refine aF func94 F ntmps94 F ?_
 have qw:=hr.1
 have hwd:dF d≤64:=hw6
 refine a8 (bh (bh (bJ (az gM (aQ (ax aC (ax aC ?_)))))))
 by_cases h23:to gD=true
 ·have Ee:=wS gD Kp
  refine fD F F F (et Ee F F ?_)
  clear Ee
  rintro vr O' ⟨rfl,e9⟩
  rw[bz h23,e9]
  clear e9
  refine bF bR ?_
  refine cJ ?_
  refine ba (T.dH 5 1 ?_)
  refine aJ (aQ (bh (bm ?_)))
  refine fJ nS (vI ((gD:Nat):Int)) results94 F F ?_
  exact⟨ak none 0 5 1 []::OO,Sub.rf,[],gD,none,0,LH h23,F,F⟩
 have Ee:=wS gD Kp
 refine fD F F F (et Ee F F ?_)
 clear Ee
 rintro vr O' ⟨rfl,e9⟩
 rw[bT h23,e9]
 clear e9
 refine bF bR (cK (aE (a8 (au (io fB Value.bool (fun oE=>?_))))))
 refine aQ (az gM (au (jD (a:=((gD:Nat):Int)) (v:=!false) 0 underlying83 (fZ.int underlying3) F F F F (by simp) ?_)))
 refine aQ (ai (bP (dy [vI ((gD:Nat):Int),vI (-1),.int .u8 0] xh jX (by kernel_rfl)) (au (cW (m:=1) (parts:=[(0,_)]) (cs:=[vI ((gD:Nat):Int),vI (-1),.int .u8 0]) underlying172 jX (by decide) (by kernel_rfl) F (fun z2=>?_)))))
 refine bh (bJ (ai (aw ?_)))
 have UA:false=false→to gD=false:=fun h=>by first|exact absurd h (by decide)|exact Bool.eq_false_iff.2 h23
 refine cS (fun(i:Nat) ρ O=> ∃(sb:Option Addr) (sc:Nat) (st:List tE) (m:List (Int×Bool)),O=([ak sb sc 171 3 (iL st),cM fB Value.bool oE m]++OO)∧i≤st.length∧uK d al to gD false st i 0∧rE false gD st m∧cL [(0,(.slice nb d.next.length nc)),(1,vI ((gD:Nat):Int)),(2,.bool false),(3,iB),(4,PJ),(10,nS),(12,(.map (some oE))),(13,(.slice sb st.length sc)),(14,vI ((i:Nat):Int))] ρ) (fun i=>d.next.length+1-i) 0 ?_ ?_
 ·exact⟨(aD z2),1,[(gD, -1,0)],[(((gD:Nat):Int),!false)],F,aG _,uK.start Kp UA,rE.start false gD,(.of F)⟩
 rintro i ρ O ⟨sb,sc,st,m,rfl,hi,hB,hM,hH⟩
 obtain⟨fy,rfl⟩:=hH.elim
 clear hH
 have mK:=hB.len
 refine ba (bI (az (bV underlying172) (bF cH (aH F (fun hc=>?_) (fun hc=>?_)))))
 ·have AB:i<st.length:=by omega
  have p9:i<st.length:=by omega
  obtain⟨q9,Dg⟩: ∃q,st[i]=q:=⟨_,F⟩
  have pS:st[i]? =some q9:=by rw[ah p9,Dg]
  have DF:q9.1<d.next.length:=hB.lt _ (Dg▸ap p9)
  obtain⟨v1,c1,g1,s1⟩:=hr.get DF
  have uf:d.next[q9.1].length=dF d:=hv.len _ (ap DF)
  refine aE (ba (aw (bI (aQ (az (fO (i:=i) underlying172 jX F F (bU 0) (by first|assumption|omega|(simp;omega)|simp_all) (by first|(rw[ft];omega)|(simp[ft];omega)|(simp_all[ft];omega))) (ad (ez underlying171 F bt F F (bU 0) (by first|(rw[ft];omega)|(simp[ft];omega)|(simp_all[ft];omega))) (ad (dR underlying3 F F (bU 0) ((rS p9 0 (by decide)).trans (by rw[Dg];rfl))) (ad (b8 q9.1 underlying24 cf F F (bS hS) DF (qw▸DF)) (ad (eA underlying22 F F hS g1) (ad (bV underlying22) (aS (aw ?_))))))))))))
  refine cS (fun(x:Nat) ρ O=> ∃(sb:Option Addr) (sc:Nat) (st:List tE) (m:List (Int×Bool)),O=([ak sb sc 171 3 (iL st),cM fB Value.bool oE m]++OO)∧x≤dF d∧i<st.length∧st[i]? =some q9∧uK d al to gD false st i x∧rE false gD st m∧cL [(0,(.slice nb d.next.length nc)),(1,vI ((gD:Nat):Int)),(2,.bool false),(3,iB),(4,PJ),(10,nS),(12,(.map (some oE))),(13,(.slice sb st.length sc)),(14,vI ((i:Nat):Int)),(47,(.slice v1 d.next[q9.1].length c1)),(48,vI (d.next[q9.1].length:Int)),(49,vI ((x:Nat):Int))] ρ) (fun x=>dF d-x) 0 ?_ ?_
  ·exact⟨sb,sc,st,m,F,aG _,p9,pS,hB,hM,(.of F)⟩
  rintro x ρ O ⟨sb,sc,st,m,rfl,hx,p9,pS,hB,hM,hH⟩
  obtain⟨fy,rfl⟩:=hH.elim
  clear hH
  have mK:=hB.len
  obtain⟨b9,Ga⟩: ∃b,(eN ((di d q9.1 x:Nat):Int) m).getD false=b:=⟨_,F⟩
  refine aB cH (TO.ns (aH F (fun hc=>?_) (fun hc=>?_)))
  ·have j8:x<d.next[q9.1].length:=by omega
   have jm:x<dF d:=by omega
   obtain⟨uO,_,lM,ru⟩:=hv.fG DF jm
   have ru:(ints d.next[q9.1])[x]? =some (vI ((di d q9.1 x:Nat):Int)):=by rw[eu lM,ru]
   refine aE (ba (aw (bP (b8 x underlying22 bt F F (bS s1) lM (by rw[ag];exact lM)) (ad (eA underlying3 F F s1 ru) (bh (bh (bJ (aQ (az (bH (jy (a:=((di d q9.1 x:Nat):Int)) underlying83 eW (fZ.int underlying3) F F (mG 1)) (v':=.bool (decide (b9=true))) (by rw[←Ga];cases eN ((di d q9.1 x:Nat):Int) m with|none=>rfl|some b=>cases b<;>rfl)) ?_)))))))))
   by_cases PK:b9=true
   ·refine ad (cm aC PK) ?_
    refine cP (bF bR ?_)
    refine cJ ?_
    refine bA ?_
    refine aJ (ad (bK (b:=1) x F F (by omega)) (aS ?_))
    let jT:List Lx.Item:=[ak sb sc 171 3 (iL st),cM fB Value.bool oE m]
    exact⟨x+1,by omega,(jT++OO),(dx [0,0] jT OO F F),sb,sc,st,m,F,by omega,p9,pS,hB.skip pS (fun h=>by first|exact absurd h Hq|exact(hM _).1 (Ga.trans PK)),hM,(.of F)⟩
   refine ad (cD aC PK) (ax aC (ax aC ?_))
   by_cases Hq:al (di d q9.1 x)=true
   ·have rj:=eY [ak sb sc 171 3 (iL st),cM fB Value.bool oE m] (yp (di d q9.1 x) uO)
    refine fD F F F (et rj F F ?_)
    clear rj
    rintro vr O' ⟨rfl,rfl⟩
    rw[bz Hq]
    refine ax gM (bF ca (cK (aE (ba ?_))))
    have Li: ¬kJ false gD st (di d q9.1 x):=fun g=>PK (Ga.symm.trans ((hM _).2 g))
    refine aJ (dr (au (oO (K:=fB) (V:=Value.bool) (a:=((di d q9.1 x:Nat):Int)) (v:=true) 1 underlying83 (fZ.int underlying3) (sbY _) F F F F ?_)))
    let iC:Value:=vI ((di d q9.1 x:Nat):Int)
    let jR:Value:=.int .u8 ((x:Nat):Int)
    refine TO.nl (bI (dr (az (jj underlying3 underlying5 F (EJ (by omega))) (ad (dy [iC,vI ((i:Nat):Int),jR] xh jX (by kernel_rfl)) (au (cW (m:=1) (parts:=[(0,_)]) (cs:=[iC,vI ((i:Nat):Int),jR]) underlying172 jX (by decide) (by kernel_rfl) F (fun z3=>?_)))))))
    refine au (dp 1 underlying172 underlying172 jX F F F F (ft st) (by decide) (Src.row (j:=0) F (by simp)) (by simp[fL]) (by omega) (by decide) (by decide) (fun z4 v_=>?_))
    refine bh (bJ (dr ?_))
    let gk:List Lx.Item:=[aU z3 1 171 3 [vI ((di d q9.1 x:Nat):Int),vI ((i:Nat):Int),.int .u8 ((x:Nat):Int)],ak z4 v_ 171 3 ((iL st)++[vI ((di d q9.1 x:Nat):Int),vI ((i:Nat):Int),.int .u8 ((x:Nat):Int)]),cM fB Value.bool oE (gH ((di d q9.1 x:Nat):Int) true m)]
    have PL:=eY gk (wS (di d q9.1 x) uO)
    refine au (et PL F F ?_)
    clear PL
    rintro vr O' ⟨rfl,rfl⟩
    refine bF gM (aH (p:= ¬to (di d q9.1 x)=true) (av Value.bool (by simp)) (fun hc=>?_) (fun hc=>?_))
    ·have YK:to (di d q9.1 x)=false:=Bool.eq_false_iff.2 hc
     refine bA ?_
     refine aJ (ad (bK (b:=1) x F F (by omega)) (aS ?_))
     refine⟨x+1,by omega,([ak z4 v_ 171 3 ((iL st)++[iC,vI ((i:Nat):Int),jR]),cM fB Value.bool oE (gH ((di d q9.1 x:Nat):Int) true m)]++OO),(dx [1,1] gk OO F F),z4,v_,st++[(di d q9.1 x,(i:Int),x)],gH ((di d q9.1 x:Nat):Int) true m,?_,by omega,by simp;omega,?_,hB.push pS jm F uO Hq Li YK,hM.put hB.pos _ _ _,?_⟩
     ·rw[uP]
     ·rw[bG p9];exact pS
     ·rw[aI];exact(.of F)
    have YL:to (di d q9.1 x)=true:=Classical.not_not.1 hc
    obtain⟨He,Jj⟩:=hB.nK pS jm F Hq
    have Gb:=hB.PA uO Li
    refine aE (ba (ba ?_))
    have kB:(st++[(di d q9.1 x,(i:Int),x)]).length=st.length+1:=by simp
    refine cV (O':=[ak z4 v_ 171 3 (iL (st++[(di d q9.1 x,(i:Int),x)])),cM fB Value.bool oE (gH ((di d q9.1 x:Nat):Int) true m)]++OO) (by rw[uP];exact fq [aU z3 1 171 3 [vI ((di d q9.1 x:Nat):Int),vI ((i:Nat):Int),.int .u8 ((x:Nat):Int)]]) ?_
    refine aJ (az (bV underlying172) (ad (bH (il (a:=st.length+1) (b:=1) F F (by omega) (by omega)) (v':=vI ((st.length:Nat):Int)) (by simp)) (ai (aw (T.dH 5 1 ?_)))))
    refine cS (fun(kk:Nat) ρ O=> ∃(wb:Option Addr) (wc:Nat) (w:List Nat),O=([ak wb wc 5 1 (ek w),ak z4 v_ 171 3 (iL (st++[(di d q9.1 x,(i:Int),x)])),cM fB Value.bool oE (gH ((di d q9.1 x:Nat):Int) true m)]++OO)∧kk≤st.length∧Pz d al (st++[(di d q9.1 x,(i:Int),x)]) st.length kk w (di d q9.1 x)∧(kk=st.length→w=[])∧(kk≠st.length→w≠ [])∧cL [(0,(.slice nb d.next.length nc)),(1,vI ((gD:Nat):Int)),(2,.bool false),(3,iB),(4,PJ),(10,(.slice wb w.length wc)),(12,(.map (some oE))),(13,(.slice z4 (st.length+1) v_)),(14,vI ((i:Nat):Int)),(15,vI ((x:Nat):Int)),(16,vI ((di d q9.1 x:Nat):Int)),(17,vI ((kk:Nat):Int)),(47,(.slice v1 d.next[q9.1].length c1)),(48,vI (d.next[q9.1].length:Int)),(49,vI ((x:Nat):Int))] ρ) (fun kk=>kk) st.length ?_ ?_
    ·exact⟨none,0,[],F,aV _,He,fun _=>rfl,fun h=>absurd F h,(.of F)⟩
    rintro kk ρ O ⟨wb,wc,w,rfl,yG,Mp,AN,AO,hH⟩
    obtain⟨fy,rfl⟩:=hH.elim
    clear hH
    refine ba (bP fg (TO.nl (aH F (fun hc=>?_) (fun hc=>?_))))
    ·have ad5:kk>0:=by omega
     have AF:kk<(st++[(di d q9.1 x,(i:Int),x)]).length:=by omega
     obtain⟨j9,q8,hq8,hj9,YM,UX⟩: ∃(j9:Nat) (q8:tE),(st++[(di d q9.1 x,(i:Int),x)])[kk]? =some q8∧q8.2.1=(j9:Int)∧Pz d al (st++[(di d q9.1 x,(i:Int),x)]) st.length j9 (w++[q8.2.2]) (di d q9.1 x)∧j9<kk:=by
      by_cases e:kk=st.length
      ·subst e
       exact⟨i,(di d q9.1 x,(i:Int),x),by rw[bN (aV _)];simp,F,by rw[AN F];exact Jj,p9⟩
      ·obtain⟨j9,q8,a1,a2,a3,a4⟩:=Mp.step hB (by omega) (by omega)
       exact⟨j9,q8,a1,a2,a3,a4⟩
     rw[ah AF]at hq8
     have PN:=cg hq8
     refine aE (ba (aw (aJ (dr (az (fO (i:=kk) underlying172 jX F F (bU 1) (kB▸AF) (by rw[ft];omega)) (ad (ez underlying171 F fS F F (bU 1) (by first|(rw[ft];omega)|(simp[ft];omega)|(simp_all[ft];omega))) (ad (dR underlying5 F F (bU 1) ((rS AF 2 (by decide)).trans (by rw[PN];rfl))) (au (dv (v:=.int .u8 ((q8.2.2:Nat):Int)) underlying27 fS F F F (fun z6=>?_))))))))))
     refine au (dp 1 underlying27 underlying27 fS F F F F (by rw[ag,Nat.mul_one]) (by decide) (Src.row (j:=0) F (by simp)) (by simp[fL]) (by have:=Mp.len;omega) (by decide) (by decide) (fun z7 z_=>?_))
     refine ai (aJ (aQ (az (fO (i:=kk) underlying172 jX F F (bU 2) (kB▸AF) (by rw[ft];omega)) (ad (ez underlying171 F bt F F (bU 2) (by first|(rw[ft];omega)|(simp[ft];omega)|(simp_all[ft];omega))) (ad (dR underlying3 F F (bU 2) ((rS AF 1 (by decide)).trans (by rw[PN];show some (Value.int .i64 q8.2.1)=_;rw[hj9]))) (ai ?_))))))
     let gS:Lx.Item:=ak z7 z_ 5 1 ((ek w)++[.int .u8 ((q8.2.2:Nat):Int)])
     exact⟨j9,UX,([gS,ak z4 v_ 171 3 (iL (st++[(di d q9.1 x,(i:Int),x)])),cM fB Value.bool oE (gH ((di d q9.1 x:Nat):Int) true m)]++OO),(dx [1,1,1] [aU z6 1 5 1 [.int .u8 ((q8.2.2:Nat):Int)],gS,ak z4 v_ 171 3 (iL (st++[(di d q9.1 x,(i:Int),x)])),cM fB Value.bool oE (gH ((di d q9.1 x:Nat):Int) true m)] OO F F),z7,z_,w++[q8.2.2],by rw[show ek (w++[q8.2.2])=ek w++[.int .u8 ((q8.2.2:Nat):Int)] by simp],by omega,YM,fun h=>absurd h (by omega),fun _=>by simp,by rw[aI];exact(.of F)⟩
    have ad7: ¬kk>0:=by omega
    refine bA ?_
    refine bI ?_
    have PO:=cZ.under (A:=[ak wb wc 5 1 (ek w)]) (B:=[ak z4 v_ 171 3 (iL (st++[(di d q9.1 x,(i:Int),x)])),cM fB Value.bool oE (gH ((di d q9.1 x:Nat):Int) true m)]++OO) (O:=([ak wb wc 5 1 (ek w),ak z4 v_ 171 3 (iL (st++[(di d q9.1 x,(i:Int),x)])),cM fB Value.bool oE (gH ((di d q9.1 x:Nat):Int) true m)]++OO)) (F9 base wb wc wc w (by have:=Mp.len;omega)) (fq [])
    refine TO.lc Ox PO ?_
    clear PO
    rintro vr O' ⟨A1,rfl,rfl⟩
    refine TO.nl (bI (aQ (bh (bm ?_))))
    refine fJ (.slice wb w.length wc) (vI ((di d q9.1 x:Nat):Int)) results94 F F ?_
    have yM:kk=0:=by omega
    subst yM
    have K_:=Mp.done hB Gb (AO (by have:=hB.pos;omega)) YL
    exact⟨ak wb wc 5 1 (ek w.reverse)::OO,fq [ak z4 v_ 171 3 (iL (st++[(di d q9.1 x,(i:Int),x)])),cM fB Value.bool oE (gH ((di d q9.1 x:Nat):Int) true m)],w.reverse,_,wb,wc,K_,by rw[List.length_reverse],F⟩
   have rj:=eY [ak sb sc 171 3 (iL st),cM fB Value.bool oE m] (yp (di d q9.1 x) uO)
   refine fD F F F (et rj F F ?_)
   clear rj
   rintro vr O' ⟨rfl,rfl⟩
   rw[bT Hq]
   refine ax gM (bF ca ?_)
   refine cJ ?_
   refine bA ?_
   refine aJ (ad (bK (b:=1) x F F (by omega)) (aS ?_))
   exact⟨x+1,by omega,([ak sb sc 171 3 (iL st),cM fB Value.bool oE m]++OO),(dx [0,0] [ak sb sc 171 3 (iL st),cM fB Value.bool oE m] OO F F),sb,sc,st,m,F,by omega,p9,pS,hB.skip pS (fun h=>by first|exact absurd h Hq|exact(hM _).1 (Ga.trans PK)),hM,(.of F)⟩
  have IE: ¬x<d.next[q9.1].length:=by omega
  refine bA ?_
  refine aJ (az (bK (b:=1) i F F (by omega)) (ai ?_))
  have SG:x=dF d:=by omega
  subst SG
  exact⟨i+1,by omega,([ak sb sc 171 3 (iL st),cM fB Value.bool oE m]++OO),(dx [0,0] [ak sb sc 171 3 (iL st),cM fB Value.bool oE m] OO F F),sb,sc,st,m,F,by omega,hB.next,hM,(.of F)⟩
 have IB: ¬i<st.length:=by omega
 refine bA ?_
 refine a8 (bh (bm ?_))
 refine fJ nS (vI (-1)) results94 F F ?_
 have r_:i=st.length:=by omega
 subst r_
 obtain⟨Q,t,e1,e2,e3⟩:=hex
 exact(hB.none e1 e2 e3).elim
theorem xw {xs fl:List Nat} {i k:Nat} (wy:fl.length=xs.length+1) (hi:i<xs.length) (h: ∀j,1≤j→j≤i→LB (fun i=>xs.getD i 0) j (fl.getD j 0)) (hn:LB (fun i=>xs.getD i 0) (i+1) k) (j:Nat) (h1:1≤j) (h2:j≤i+1):LB (fun i=>xs.getD i 0) j ((fl.set (i+1) k).getD j 0):=by
 have e:=kv (a:=k) (l:=fl) (v:=i+1) (by omega) j
 rw[show(fl.set (i+1) k).getD j 0=fn (fl.set (i+1) k) j from F,e]
 by_cases hj:j=i+1
 ·subst hj;rw[aA F];exact hn
 ·rw[ar hj];exact h j h1 (by omega)
theorem adU (w:World) [eT prog w] (b:Option Addr) (c:Nat) (xs:List Nat) (hS:Sl w b (ek xs)) (h0:0<xs.length) (hc:xs.length≤c) (hb:xs.length≤1000000):
  cR prog 117 [.slice b xs.length c] w fun v N=> ∃q,v=.slice b q c∧N=[]∧SS (fun i=>xs.getD i 0) xs.length q:=by
 refine aF func117 F ntmps117 F ?_
 refine a8 (ai (bP (bV underlying27) (ad (bK (b:=1) xs.length F F (by omega)) (au (cq (xs.length+1) underlying22 bt F F (by omega) (by omega) (fun dk=>?_))))))
 refine ai (a8 (bh (bJ (ai (aw ?_)))))
 let dC:Value:=(.slice b xs.length c)
 refine cX (fun(i:Nat) ρ O=> ∃(fl:List Nat) (k:Nat),O=[aU dk (xs.length+1) 3 1 (bn fl)]∧1≤i∧i≤xs.length∧fl.length=xs.length+1∧(∀j,1≤j→j≤i→LB (fun i=>xs.getD i 0) j (fl.getD j 0))∧k=fl.getD i 0∧cL [(0,dC),(2,nS),(3,(.slice (aD dk) (xs.length+1) (xs.length+1))),(4,vI (k:Int)),(5,vI (i:Int))] ρ) (fun i=>xs.length-i) 1 ?_ ?_
 ·refine⟨List.replicate (xs.length+1) 0,0,?_,aV _,h0,by simp,fun j h1 h2=>?_,by rw[gd (by simp;omega)];simp,(.of F)⟩
  ·simp only[List.map_replicate];rfl
  ·have:j=1:=by omega
   subst this
   rw[gd (by simp;omega),List.getElem_replicate];exact VT.one
 rintro i ρ O ⟨fl,k,rfl,GM,hi,wy,Q8,yM,hH⟩
 obtain⟨fy,rfl⟩:=hH.elim
 clear hH
 have hW:=Q8 i GM (aV _)
 rw[←yM]at hW
 have He:=hW.b.1
 refine ba (bI (az (bV underlying27) (bF cH (aH F (fun hc=>?_) (fun hc=>?_)))))
 ·have AH:i<xs.length:=by omega
  refine aE (ba (aw (ba (aw ?_))))
  refine cX (fun(k2:Nat) ρ O=>O=[aU dk (xs.length+1) 3 1 (bn fl)]∧KZ (fun i=>xs.getD i 0) i k2∧cL [(0,dC),(2,nS),(3,(.slice (aD dk) (xs.length+1) (xs.length+1))),(4,vI (k2:Int)),(5,vI (i:Int))] ρ) (fun k2=>k2) k ?_ ?_
  ·exact⟨F,VT.start hW,(.of F)⟩
  rintro k2 ρ O ⟨rfl,BC,hH⟩
  obtain⟨fy,rfl⟩:=hH.elim
  clear hH
  have Jj:=BC.1.1
  refine ba (ba ?_)
  refine e6 [(0,0),(1,0),(2,0),(3,0),(4,0),(5,0),(6,0),(7,0),(8,0),(9,0),(10,0),(11,0),(12,0)] ?_
  refine am F aC (am F fg ?_)
  by_cases adV:(k2:Int)>0
  ·refine am F (cm aC adV) ?_
   refine bg F F F aC ?_
   refine bg F F F aC ?_
   refine bg F F F (b8 i underlying27 fS F F (bS hS)) ?_
   refine bg F F F (eA underlying5 F F hS h_) ?_
   refine bg F F F aC ?_
   refine bg F F F aC ?_
   refine bg F F F (b8 k2 underlying27 fS F F (bS hS)) ?_
   refine bg F F F (eA underlying5 F F hS h_) ?_
   refine bg F F F gB ?_
   refine am F bR ?_
   refine cl ?_
   refine aH F (fun hc=>?_) (fun hc=>?_)
   ·have V_:xs[i]≠xs[k2]:=by omega
    have Wr:=hc
    refine aE (aw (aJ (aQ (az (b8 k2 underlying22 bt F F (bU 0)) (ad (dR underlying3 F F (bU 0) dK) (ai ?_))))))
    have hb:=Q8 k2 (by omega) (by omega)
    have fM:=hb.b.1
    rw[gd (by omega)]at hb fM
    exact⟨fl[k2],fM,F,VT.next BC (by show xs.getD i 0≠xs.getD k2 0;rw[gd (by omega),gd (by omega)];omega) hb,(.of F)⟩
   have Wa: ¬xs[i]≠xs[k2]:=by omega
   refine bA ?_
   refine ba (ba ?_)
   refine e6 [(0,0),(1,0),(2,0),(3,0),(4,0),(5,0),(6,0),(7,0),(8,0)] ?_
   refine am F aC (am F aC (am F (b8 i underlying27 fS F F (bS hS)) (am F (eA underlying5 F F hS h_) (am F aC (am F aC (am F (b8 k2 underlying27 fS F F (bS hS)) (am F (eA underlying5 F F hS h_) (am F en ?_))))))))
   refine cl ?_
   refine aH F (fun hc=>?_) (fun hc=>?_)
   ·have adW:xs[i]=xs[k2]:=by omega
    refine aJ (az (bK (b:=1) k2 F F (by omega)) (ai (aJ (aQ (az (bK (b:=1) i F F (by omega)) (az (b8 ((i+1)) underlying22 bt F F (bU 0)) (au (gw (v:=vI ((k2+1:Nat):Int)) (vs:=[(vI ((k2+1:Nat):Int))]) (cs:=bn fl) ((i+1)) 0 bt F F F F F (by simp) F (by first|(simp;omega)|(simp_all;omega)) ?_))))))))
    refine cY (O':=[aU dk (xs.length+1) 3 1 (bn (fl.set (i+1) (k2+1)))]) (by rw[show dq (bn fl) (i+1) [(vI ((k2+1:Nat):Int))]=bn (fl.set (i+1) (k2+1))from(by simp[dq])];exact bj (ay _)) ?_
    refine TO.nl (aJ (az (bK (b:=1) i F F (by omega)) (ai ?_)))
    exact⟨i+1,by omega,fl.set (i+1) (k2+1),k2+1,F,by omega,by omega,by simp[wy],fun j h1 h2=>xw wy (by omega) Q8 (VT.nK BC (by show xs.getD i 0=xs.getD k2 0;rw[gd (by omega),gd (by omega)];omega)) j h1 h2,by rw[gd (by simp;omega),List.getElem_set_self],(.of F)⟩
   have adX: ¬xs[i]=xs[k2]:=by omega
   refine aE (aJ (aQ (az (bK (b:=1) i F F (by omega)) (az (b8 ((i+1)) underlying22 bt F F (bU 0)) (au (gw (v:=vI (k2:Int)) (vs:=[(vI (k2:Int))]) (cs:=bn fl) ((i+1)) 0 bt F F F F F (by simp) F (by first|(simp;omega)|(simp_all;omega)) ?_))))))
   refine cY (O':=[aU dk (xs.length+1) 3 1 (bn (fl.set (i+1) (k2)))]) (by rw[show dq (bn fl) (i+1) [(vI (k2:Int))]=bn (fl.set (i+1) (k2))from(by simp[dq])];exact bj (ay _)) ?_
   refine TO.nl (aJ (az (bK (b:=1) i F F (by omega)) (ai ?_)))
   have LA:k2=0:=by omega
   subst LA
   exact⟨i+1,by omega,fl.set (i+1) 0,0,F,by omega,by omega,by simp[wy],fun j h1 h2=>xw wy (by omega) Q8 (VT.SR BC (by show xs.getD i 0≠xs.getD 0 0;rw[gd (by omega),gd (by omega)];omega)) j h1 h2,by rw[gd (by simp;omega),List.getElem_set_self],(.of F)⟩
  refine am F (cD aC adV) (aT F F F (aT F F F (aT F F F (aT F F F (aT F F F (aT F F F (aT F F F ?_)))))))
  refine aT F F F (aT F F F (am F ca ?_))
  refine cl ?_
  refine cK ?_
  refine bA ?_
  refine ba (ba ?_)
  refine e6 [(0,0),(1,0),(2,0),(3,0),(4,0),(5,0),(6,0),(7,0),(8,0)] ?_
  refine am F aC (am F aC (am F (b8 i underlying27 fS F F (bS hS)) (am F (eA underlying5 F F hS h_) (am F aC (am F aC (am F (b8 k2 underlying27 fS F F (bS hS)) (am F (eA underlying5 F F hS h_) (am F en ?_))))))))
  refine cl ?_
  refine aH F (fun hc=>?_) (fun hc=>?_)
  ·have adW:xs[i]=xs[k2]:=by omega
   refine aJ (az (bK (b:=1) k2 F F (by omega)) (ai (aJ (aQ (az (bK (b:=1) i F F (by omega)) (az (b8 ((i+1)) underlying22 bt F F (bU 0)) (au (gw (v:=vI ((k2+1:Nat):Int)) (vs:=[(vI ((k2+1:Nat):Int))]) (cs:=bn fl) ((i+1)) 0 bt F F F F F (by simp) F (by first|(simp;omega)|(simp_all;omega)) ?_))))))))
   refine cY (O':=[aU dk (xs.length+1) 3 1 (bn (fl.set (i+1) (k2+1)))]) (by rw[show dq (bn fl) (i+1) [(vI ((k2+1:Nat):Int))]=bn (fl.set (i+1) (k2+1))from(by simp[dq])];exact bj (ay _)) ?_
   refine TO.nl (aJ (az (bK (b:=1) i F F (by omega)) (ai ?_)))
   exact⟨i+1,by omega,fl.set (i+1) (k2+1),k2+1,F,by omega,by omega,by simp[wy],fun j h1 h2=>xw wy (by omega) Q8 (VT.nK BC (by show xs.getD i 0=xs.getD k2 0;rw[gd (by omega),gd (by omega)];omega)) j h1 h2,by rw[gd (by simp;omega),List.getElem_set_self],(.of F)⟩
  have adX: ¬xs[i]=xs[k2]:=by omega
  refine aE (aJ (aQ (az (bK (b:=1) i F F (by omega)) (az (b8 ((i+1)) underlying22 bt F F (bU 0)) (au (gw (v:=vI (k2:Int)) (vs:=[(vI (k2:Int))]) (cs:=bn fl) ((i+1)) 0 bt F F F F F (by simp) F (by first|(simp;omega)|(simp_all;omega)) ?_))))))
  refine cY (O':=[aU dk (xs.length+1) 3 1 (bn (fl.set (i+1) (k2)))]) (by rw[show dq (bn fl) (i+1) [(vI (k2:Int))]=bn (fl.set (i+1) (k2))from(by simp[dq])];exact bj (ay _)) ?_
  refine TO.nl (aJ (az (bK (b:=1) i F F (by omega)) (ai ?_)))
  have LA:k2=0:=by omega
  subst LA
  exact⟨i+1,by omega,fl.set (i+1) 0,0,F,by omega,by omega,by simp[wy],fun j h1 h2=>xw wy (by omega) Q8 (VT.SR BC (by show xs.getD i 0≠xs.getD 0 0;rw[gd (by omega),gd (by omega)];omega)) j h1 h2,by rw[gd (by simp;omega),List.getElem_set_self],(.of F)⟩
 have MQ: ¬i<xs.length:=by omega
 refine bA ?_
 refine ba (ba ?_)
 have r_:i=xs.length:=by omega
 subst r_
 have Kp:fl[xs.length]<xs.length:=by rw[gd (by omega)]at yM;omega
 have S6:=SU h0 hW
 rw[yM,gd (by omega)]at S6
 refine aJ (az (bV underlying27) (aQ (az (bV underlying27) (ad (b8 xs.length underlying22 bt F F (bU 0)) (ad (dR underlying3 F F (bU 0) dK) (ad (il (a:=xs.length) (b:=fl[xs.length]) F F (by omega) (by omega)) (ai (bP (bV underlying27) (az (kR (a:=xs.length) (b:=(xs.length-fl[xs.length])) F F (by omega)) (bF en (aH F (fun hc=>?_) (fun hc=>?_))))))))))))
 ·have IU:xs.length%(xs.length-fl[xs.length])=0:=by omega
  refine bI (az (jM (hi:=(xs.length-fl[xs.length])) underlying27 fS F F (by omega)) (bm ?_))
  refine aM (.slice b (xs.length-fl[xs.length]) c) results117 F ?_
  rw[aA (by omega)]at S6
  exact⟨[],bj (aX _),_,F,F,S6⟩
 have aa5: ¬xs.length%(xs.length-fl[xs.length])=0:=by omega
 refine aE (bI (bm ?_))
 refine aM dC results117 F ?_
 rw[ar (by omega)]at S6
 exact⟨[],bj (aX _),_,F,F,S6⟩
theorem Ic (w:World) [eT prog w] (l:La) (pb lb:Option Addr) (pc lc:Nat) (h:qF w l pb lb pc lc) (hL:DR l) (h0:0<l.loop.length):
  cR prog 97 [.agg (c_ l pb pc lb lc).toArray] w fun v N=> ∃c s7 GH jV GI,v=.agg (c_ c s7 jV GH GI).toArray∧N=[ak s7 jV 5 1 (ek c.pre),ak GH GI 5 1 (ek c.loop)]∧uq l c:=by
 refine aF func97 F ntmps97 F ?_
 have xC:=hL.pre;have tJ:=hL.loop;have wH:=h.pc;have Ri:=h.lc
 refine a8 (au (e5 ((c_ l pb pc lb lc)) (fun dk=>?_)))
 refine au (bO dD (fun dI=>?_))
 refine TO.nl ?_
 refine T.scope ?_ (fun _ _ _ h=>h)
 refine aB (eg 1 underlying29 dD) (TO.lc VN (aK fun w1 hI=>(haveI:=Inv.tab (P:=prog) hI;V9 w1 l pb lb pc lc h0)) ?_)
 rintro vr O' ⟨N,rfl,rfl,rfl⟩
 refine au (cE ((c_ l pb pc lb lc)) 1 dD ?_)
 refine TO.ns ?_
 refine e6 [(0,0),(1,0),(3,0),(4,0),(5,0),(2,1),(6,0),(7,0)] ?_
 refine am F (bY underlying29 fX) (am F (bp 1 underlying27) (am F (bY underlying29 fX) (am F (bp 1 underlying27) (am F (bV underlying27) ?_))))
 refine eH F F (dV X9 (aK fun w1 hI=>(haveI:=Inv.tab (P:=prog) hI;adU w1 lb lc l.loop (hI.sl h.loop) h0 h.lc hL.loop)) ?_)
 rintro vr O' ⟨N,rfl,q,rfl,rfl,hr⟩
 refine⟨aR [0,0],?_⟩
 refine am F dN (am F dN ?_)
 refine cl ?_
 refine ba ?_
 have QZ:=hr.pos
 have tD:q≤l.loop.length:=Nat.le_of_dvd h0 hr.dvd
 refine aJ (az (bV underlying27) (ai (ba ?_)))
 refine T.label ?_
 refine ba (aw ?_)
 let dM:Lx.Item:=oI dk 29 (c_ l pb pc lb lc)
 let gC:Value:=(.agg (c_ l pb pc lb lc).toArray)
 let gk:List Lx.Item:=[oI dI 29 [nS,nS],dM]
 refine cX (fun(n:Nat) ρ O=> ∃(a:Nat),O=gk∧Fh l q n a∧cL [(0,gC),(1,(.pointer (aD dk))),(2,(.pointer (aD dI))),(3,(.slice lb q lc)),(4,vI (n:Int)),(5,vI (a:Int))] ρ) (fun n=>n) l.pre.length ?_ ?_
 ·exact⟨q,F,Fh.start h0 hr,(.of F)⟩
 rintro n ρ O ⟨a,rfl,BS,hH⟩
 obtain⟨fy,rfl⟩:=hH.elim
 clear hH
 have hn:=BS.nl;have ha0:=BS.a0;have haq:=BS.aq
 have RT:(a-1)%q<q:=Nat.mod_lt _ QZ
 refine ba (bP fg (TO.nl (aH F (fun hc=>?_) (fun hc=>?_))))
 ·have Vi:n>0:=by omega
  have U0:0<n:=by omega
  refine aE (aw (ba (ba ?_)))
  refine e6 [(0,0),(1,0),(2,0),(3,0),(4,0),(5,0),(6,0),(7,0),(8,0),(9,0),(10,0),(11,0),(12,0),(13,0),(14,0)] ?_
  refine am F (bY underlying29 fX) (am F (bp 1 underlying27) (am F aC (am F (il (a:=n) (b:=1) F F (by omega) (by omega)) (am F (b8 ((n-1)) underlying27 fS F F (bS h.pre)) (am F (eA underlying5 F F h.pre h_) (am F aC (am F aC (am F (il (a:=a) (b:=1) F F (by omega) (by omega)) (am F aC (am F (bV underlying27) (am F (kR (a:=(a-1)) (b:=q) F F (by omega)) (am F (b8 (((a-1)%q)) underlying27 fS F F (bS h.loop) (by omega) (by rw[ag];omega)) (am F (eA underlying5 F F h.loop (h_ (by omega))) (am F gB ?_))))))))))))))
  refine cl ?_
  refine aH F (fun hc=>?_) (fun hc=>?_)
  ·have aj3:l.pre[n-1]≠l.loop[(a-1)%q]:=by omega
   have hx:0<n→l.pre.getD (n-1) 0≠l.loop.getD ((a-1)%q) 0:=fun h9=>by rw[gd (by omega),gd (by omega)];omega
   refine bA ?_
   refine ba ?_
   have YF:a%q<q:=Nat.mod_lt _ QZ
   have RT:=YF
   have sf:(l.pre.take n).length=n:=by rw[bC];omega
   have uf:((l.loop.take q).drop (a%q)).length=q-a%q:=by rw[List.length_drop,bC];omega
   have Mo:((l.loop.take q).take (a%q)).length=a%q:=by rw[bC,bC];omega
   have Ty: [(l.loop.take q).drop (a%q),(l.loop.take q).take (a%q)].flatten=(l.loop.take q).drop (a%q)++(l.loop.take q).take (a%q):=by simp
   have wy:((l.loop.take q).drop (a%q)++(l.loop.take q).take (a%q)).length=q:=by rw[aI,uf,Mo];omega
   have Zl:=Fi h0 hr BS hx
   refine aJ (aQ (az (bV underlying27) (ad (kR (a:=a) (b:=q) F F (by omega)) (ai ?_))))
   refine iD (fun ρ O=> ∃(kb uM:Option Addr) (kc kG:Nat),O=[oI dI 29 [(.slice kb n kc),(.slice uM q kG)],ak kb kc 5 1 (ek (l.pre.take n)),ak uM kG 5 1 (ek ((l.loop.take q).drop (a%q)++(l.loop.take q).take (a%q))),dM]∧cL [(0,gC),(1,(.pointer (aD dk))),(2,(.pointer (aD dI))),(3,(.slice lb q lc)),(4,vI (n:Int)),(5,vI ((a%q:Nat):Int))] ρ) ?_ ?_
   ·refine T.oH [dM] 15 mixed F (aR [1]) (fun _ _ _ _ h=>h) ?_
    refine aO 0 F (by kernel_rfl) (bY underlying29 fX) ?_
    refine aO 1 F (by kernel_rfl) (bp 0 underlying27) ?_
    refine aO 2 F (by kernel_rfl) aC ?_
    refine aO 3 F (by kernel_rfl) (jM (hi:=n) underlying27 fS F F (by omega)) ?_
    refine aO 5 F (by kernel_rfl) aC ?_
    refine aO 6 F (by kernel_rfl) aC ?_
    refine aO 7 F (by kernel_rfl) (n7 (lo:=(a%q)) underlying27 fS F F (by omega) (by omega)) ?_
    refine aO 8 F (by kernel_rfl) aC ?_
    refine aO 9 F (by kernel_rfl) aC ?_
    refine aO 10 F (by kernel_rfl) (jM (hi:=(a%q)) underlying27 fS F F (by omega)) ?_
    have F_:=fun(w1:World) (hI:Inv w gk w1)=>(haveI:=Inv.tab (P:=prog) hI;(by
     have hC:=Db w1 pb pc (l.pre.take n) ((hI.sl h.pre).qe n) (by rw[sf];omega)
     rw[sf]at hC;exact hC))
    let eE:List Value:=[(.slice (pM lb lc (a%q) 1) (q-(a%q)) (lc-(a%q))),(.slice lb (a%q) lc)]
    refine aZ [4,11] (by kernel_rfl) F ⟨⟨_,F,F,dV CF (aK F_) ?_⟩,⟨_,F,F,cW (m:=2) (parts:=[(0,.tmp 52),(1,.tmp 55)]) (cs:=eE) underlying183 fX (by decide) (by kernel_rfl) F (fun zW=>⟨aR [2],?_⟩)⟩,trivial⟩
    ·clear F_
     rintro vr O' ⟨N,rfl,kb,kc,rfl,rfl⟩
     refine⟨aR [2],?_⟩
     refine aZ [11] (by kernel_rfl) F ⟨⟨_,F,F,cW (m:=2) (parts:=[(0,.tmp 52),(1,.tmp 55)]) (cs:=eE) underlying183 fX (by decide) (by kernel_rfl) F (fun zW=>⟨aR [3],?_⟩)⟩,trivial⟩
     refine aZ [12] (by kernel_rfl) F ⟨⟨_,F,F,dV CG (aK fun w1 hI=>(haveI:=Inv.tab (P:=prog) hI;(by
      have hC:=xu w1 (aD zW) 2 [.slice (pM lb lc (a%q) 1) (q-a%q) (lc-a%q),.slice lb (a%q) lc] [(l.loop.take q).drop (a%q),(l.loop.take q).take (a%q)] (hI.ga (mG 0)) (pN.two ((hI.sl h.loop).RU h.lc RT tD) (((hI.sl h.loop).qe q).qe (a%q)) uf Mo) (by simp) (by rw[Ty,wy];omega)
      rw[Ty,wy]at hC;exact hC))) ?_⟩,trivial⟩
     rintro vr O' ⟨N,rfl,uM,kG,rfl,rfl⟩
     refine⟨aR [4],?_⟩
     refine aO 13 F (by kernel_rfl) (dy [(.slice kb n kc),(.slice uM q kG)] mF dD (by kernel_rfl)) ?_
     refine aZ [14] (by kernel_rfl) F ⟨⟨_,F,F,cE [(.slice kb n kc),(.slice uM q kG)] 3 dD ⟨aR [4],?_⟩ F F F F⟩,trivial⟩
     exact dB (by kernel_rfl) ⟨kb,uM,kc,kG,F,(.of F)⟩ (aR [3,2,0,1])
    refine aZ [4] (by kernel_rfl) F ⟨⟨_,F,F,dV CF (aK fun w1 hI=>(haveI:=Inv.tab (P:=prog) hI;(by
     have hC:=Db w1 pb pc (l.pre.take n) ((hI.sl h.pre).qe n) (by rw[sf];omega)
     rw[sf]at hC;exact hC))) ?_⟩,trivial⟩
    rintro vr O' ⟨N,rfl,kb,kc,rfl,rfl⟩
    refine⟨aR [3],?_⟩
    refine aZ [12] (by kernel_rfl) F ⟨⟨_,F,F,dV CG (aK fun w1 hI=>(haveI:=Inv.tab (P:=prog) hI;(by
     have hC:=xu w1 (aD zW) 2 [.slice (pM lb lc (a%q) 1) (q-a%q) (lc-a%q),.slice lb (a%q) lc] [(l.loop.take q).drop (a%q),(l.loop.take q).take (a%q)] (hI.ga (mG 1)) (pN.two ((hI.sl h.loop).RU h.lc RT tD) (((hI.sl h.loop).qe q).qe (a%q)) uf Mo) (by simp) (by rw[Ty,wy];omega)
     rw[Ty,wy]at hC;exact hC))) ?_⟩,trivial⟩
    rintro vr O' ⟨N,rfl,uM,kG,rfl,rfl⟩
    refine⟨aR [4],?_⟩
    refine aO 13 F (by kernel_rfl) (dy [(.slice kb n kc),(.slice uM q kG)] mF dD (by kernel_rfl)) ?_
    refine aZ [14] (by kernel_rfl) F ⟨⟨_,F,F,cE [(.slice kb n kc),(.slice uM q kG)] 3 dD ⟨aR [4],?_⟩ F F F F⟩,trivial⟩
    exact dB (by kernel_rfl) ⟨kb,uM,kc,kG,F,(.of F)⟩ (aR [3,1,0,1])
   rintro ρ O ⟨kb,uM,kc,kG,rfl,hH⟩
   obtain⟨fy,rfl⟩:=hH.elim
   clear hH
   refine cF (e7 ?_)
   refine iX (i:=0) results97 underlying29 F dD F F F ?_
   exact⟨[ak kb kc 5 1 (ek (l.pre.take n)),ak uM kG 5 1 (ek ((l.loop.take q).drop (a%q)++(l.loop.take q).take (a%q)))],(aR [1,1]),_,kb,uM,kc,kG,by show _=Value.agg (List.toArray [.slice kb (l.pre.take n).length kc,.slice uM ((l.loop.take q).drop (a%q)++(l.loop.take q).take (a%q)).length kG]);rw[sf,wy],F,Zl⟩
  have aj4: ¬l.pre[n-1]≠l.loop[(a-1)%q]:=by omega
  refine aE (bP (il (a:=n) (b:=1) F F (by omega) (by omega)) (ai (bP (il (a:=a) (b:=1) F F (by omega) (by omega)) (ai (bP en (TO.nl (aH F (fun hc=>?_) (fun hc=>?_))))))))
  ·have aj5:a-1=0:=by omega
   refine aJ (az (bV underlying27) (ai ?_))
   have h9:=BS.step (by omega) (by rw[gd (by omega),gd (by omega)];omega)
   rw[aA (by omega)]at h9
   exact⟨n-1,by omega,_,F,h9,(.of F)⟩
  have aj6: ¬a-1=0:=by omega
  refine aE ?_
  have h9:=BS.step (by omega) (by rw[gd (by omega),gd (by omega)];omega)
  rw[ar (by omega)]at h9
  exact⟨n-1,by omega,_,F,h9,(.of F)⟩
 have Vj: ¬n>0:=by omega
 have hx:0<n→l.pre.getD (n-1) 0≠l.loop.getD ((a-1)%q) 0:=fun h9=>absurd h9 (by omega)
 refine bA ?_
 refine ba ?_
 have YF:a%q<q:=Nat.mod_lt _ QZ
 have RT:=YF
 have sf:(l.pre.take n).length=n:=by rw[bC];omega
 have uf:((l.loop.take q).drop (a%q)).length=q-a%q:=by rw[List.length_drop,bC];omega
 have Mo:((l.loop.take q).take (a%q)).length=a%q:=by rw[bC,bC];omega
 have Ty: [(l.loop.take q).drop (a%q),(l.loop.take q).take (a%q)].flatten=(l.loop.take q).drop (a%q)++(l.loop.take q).take (a%q):=by simp
 have wy:((l.loop.take q).drop (a%q)++(l.loop.take q).take (a%q)).length=q:=by rw[aI,uf,Mo];omega
 have Zl:=Fi h0 hr BS hx
 refine aJ (aQ (az (bV underlying27) (ad (kR (a:=a) (b:=q) F F (by omega)) (ai ?_))))
 refine iD (fun ρ O=> ∃(kb uM:Option Addr) (kc kG:Nat),O=[oI dI 29 [(.slice kb n kc),(.slice uM q kG)],ak kb kc 5 1 (ek (l.pre.take n)),ak uM kG 5 1 (ek ((l.loop.take q).drop (a%q)++(l.loop.take q).take (a%q))),dM]∧cL [(0,gC),(1,(.pointer (aD dk))),(2,(.pointer (aD dI))),(3,(.slice lb q lc)),(4,vI (n:Int)),(5,vI ((a%q:Nat):Int))] ρ) ?_ ?_
 ·refine T.oH [dM] 15 mixed F (aR [1]) (fun _ _ _ _ h=>h) ?_
  refine aO 0 F (by kernel_rfl) (bY underlying29 fX) ?_
  refine aO 1 F (by kernel_rfl) (bp 0 underlying27) ?_
  refine aO 2 F (by kernel_rfl) aC ?_
  refine aO 3 F (by kernel_rfl) (jM (hi:=n) underlying27 fS F F (by omega)) ?_
  refine aO 5 F (by kernel_rfl) aC ?_
  refine aO 6 F (by kernel_rfl) aC ?_
  refine aO 7 F (by kernel_rfl) (n7 (lo:=(a%q)) underlying27 fS F F (by omega) (by omega)) ?_
  refine aO 8 F (by kernel_rfl) aC ?_
  refine aO 9 F (by kernel_rfl) aC ?_
  refine aO 10 F (by kernel_rfl) (jM (hi:=(a%q)) underlying27 fS F F (by omega)) ?_
  have F_:=fun(w1:World) (hI:Inv w gk w1)=>(haveI:=Inv.tab (P:=prog) hI;(by
   have hC:=Db w1 pb pc (l.pre.take n) ((hI.sl h.pre).qe n) (by rw[sf];omega)
   rw[sf]at hC;exact hC))
  let fo:List Value:=[(.slice (pM lb lc (a%q) 1) (q-(a%q)) (lc-(a%q))),(.slice lb (a%q) lc)]
  refine aZ [4,11] (by kernel_rfl) F ⟨⟨_,F,F,dV CF (aK F_) ?_⟩,⟨_,F,F,cW (m:=2) (parts:=[(0,.tmp 52),(1,.tmp 55)]) (cs:=fo) underlying183 fX (by decide) (by kernel_rfl) F (fun zW=>⟨aR [2],?_⟩)⟩,trivial⟩
  ·clear F_
   rintro vr O' ⟨N,rfl,kb,kc,rfl,rfl⟩
   refine⟨aR [2],?_⟩
   refine aZ [11] (by kernel_rfl) F ⟨⟨_,F,F,cW (m:=2) (parts:=[(0,.tmp 52),(1,.tmp 55)]) (cs:=fo) underlying183 fX (by decide) (by kernel_rfl) F (fun zW=>⟨aR [3],?_⟩)⟩,trivial⟩
   refine aZ [12] (by kernel_rfl) F ⟨⟨_,F,F,dV CG (aK fun w1 hI=>(haveI:=Inv.tab (P:=prog) hI;(by
    have hC:=xu w1 (aD zW) 2 [.slice (pM lb lc (a%q) 1) (q-a%q) (lc-a%q),.slice lb (a%q) lc] [(l.loop.take q).drop (a%q),(l.loop.take q).take (a%q)] (hI.ga (mG 0)) (pN.two ((hI.sl h.loop).RU h.lc RT tD) (((hI.sl h.loop).qe q).qe (a%q)) uf Mo) (by simp) (by rw[Ty,wy];omega)
    rw[Ty,wy]at hC;exact hC))) ?_⟩,trivial⟩
   rintro vr O' ⟨N,rfl,uM,kG,rfl,rfl⟩
   refine⟨aR [4],?_⟩
   refine aO 13 F (by kernel_rfl) (dy [(.slice kb n kc),(.slice uM q kG)] mF dD (by kernel_rfl)) ?_
   refine aZ [14] (by kernel_rfl) F ⟨⟨_,F,F,cE [(.slice kb n kc),(.slice uM q kG)] 3 dD ⟨aR [4],?_⟩ F F F F⟩,trivial⟩
   exact dB (by kernel_rfl) ⟨kb,uM,kc,kG,F,(.of F)⟩ (aR [3,2,0,1])
  refine aZ [4] (by kernel_rfl) F ⟨⟨_,F,F,dV CF (aK fun w1 hI=>(haveI:=Inv.tab (P:=prog) hI;(by
   have hC:=Db w1 pb pc (l.pre.take n) ((hI.sl h.pre).qe n) (by rw[sf];omega)
   rw[sf]at hC;exact hC))) ?_⟩,trivial⟩
  rintro vr O' ⟨N,rfl,kb,kc,rfl,rfl⟩
  refine⟨aR [3],?_⟩
  refine aZ [12] (by kernel_rfl) F ⟨⟨_,F,F,dV CG (aK fun w1 hI=>(haveI:=Inv.tab (P:=prog) hI;(by
   have hC:=xu w1 (aD zW) 2 [.slice (pM lb lc (a%q) 1) (q-a%q) (lc-a%q),.slice lb (a%q) lc] [(l.loop.take q).drop (a%q),(l.loop.take q).take (a%q)] (hI.ga (mG 1)) (pN.two ((hI.sl h.loop).RU h.lc RT tD) (((hI.sl h.loop).qe q).qe (a%q)) uf Mo) (by simp) (by rw[Ty,wy];omega)
   rw[Ty,wy]at hC;exact hC))) ?_⟩,trivial⟩
  rintro vr O' ⟨N,rfl,uM,kG,rfl,rfl⟩
  refine⟨aR [4],?_⟩
  refine aO 13 F (by kernel_rfl) (dy [(.slice kb n kc),(.slice uM q kG)] mF dD (by kernel_rfl)) ?_
  refine aZ [14] (by kernel_rfl) F ⟨⟨_,F,F,cE [(.slice kb n kc),(.slice uM q kG)] 3 dD ⟨aR [4],?_⟩ F F F F⟩,trivial⟩
  exact dB (by kernel_rfl) ⟨kb,uM,kc,kG,F,(.of F)⟩ (aR [3,1,0,1])
 rintro ρ O ⟨kb,uM,kc,kG,rfl,hH⟩
 obtain⟨fy,rfl⟩:=hH.elim
 clear hH
 refine cF (e7 ?_)
 refine iX (i:=0) results97 underlying29 F dD F F F ?_
 exact⟨[ak kb kc 5 1 (ek (l.pre.take n)),ak uM kG 5 1 (ek ((l.loop.take q).drop (a%q)++(l.loop.take q).take (a%q)))],(aR [1,1]),_,kb,uM,kc,kG,by show _=Value.agg (List.toArray [.slice kb (l.pre.take n).length kc,.slice uM ((l.loop.take q).drop (a%q)++(l.loop.take q).take (a%q)).length kG]);rw[sf,wy],F,Zl⟩
theorem Y7 (base:World) [eT prog base] (pb:Nat) (b:Option Addr) (c:Nat) (l:List Nat) (n:Nat) (BR:n=l.length) (hb:l.length<1000000) (OO:List Lx.Item) (hS: ∀w,Inv base ([oI pb 22 [(.slice b n c)]]++OO) w→Sl w b (bn l)) (u:Nat):
  cZ prog base 93 [vN u,(.pointer (aD pb))] ([oI pb 22 [(.slice b n c)]]++OO) (fun v O'=>v=.bool (decide ((fun u:Nat=>decide (u∈l)) u=true))∧O'=[oI pb 22 [(.slice b n c)]]++OO):=by
 subst BR;exact inF base pb b c l hb OO hS u
theorem zO (w:World) [eT prog w] (y1 y2 y3:List Nat) (pb lb:Option Addr) (pc lc:Nat) (h:qF w ⟨y1,y2++y3⟩ pb lb pc lc) (hL:DR ⟨y1,y2++y3⟩) (h0:0<(⟨y1,y2++y3⟩:La).loop.length):
  cR prog 97 [.agg #[.slice pb y1.length pc,.slice lb (y2.length+y3.length) lc]] w fun v N=> ∃c s7 GH jV GI,v=.agg (c_ c s7 jV GH GI).toArray∧N=[ak s7 jV 5 1 (ek c.pre),ak GH GI 5 1 (ek c.loop)]∧uq ⟨y1,y2++y3⟩ c:=by
 have h9:=Ic w ⟨y1,y2++y3⟩ pb lb pc lc h hL h0
 rw[show(c_ (⟨y1,y2++y3⟩:La) pb pc lb lc).toArray= #[.slice pb y1.length pc,.slice lb (y2.length+y3.length) lc] by show #[Value.slice pb y1.length pc,Value.slice lb (y2++y3).length lc]=_;rw[aI]]at h9
 exact h9
theorem Y8 (base:World) [eT prog base] (p:dG) (k:DK) (h:p6 base p k) (hv:Val p.d) (hn:p.next.length≤4096) (hw:dF p.d≤64) (OO:List Lx.Item) (al one two:Nat→Bool) (iB Ap zP:Value) (hfc:iB.cells= #[iB]) (yp: ∀u,u<p.next.length→dS prog base iB [vN u] OO (fun v O'=>v=.bool (decide (al u=true))∧O'=OO)) (Cc: ∀u,u<p.next.length→dS prog base Ap [vN u] OO (fun v O'=>v=.bool (decide (one u=true))∧O'=OO)) (TZ: ∀u,u<p.next.length→dS prog base zP [vN u] OO (fun v O'=>v=.bool (decide (two u=true))∧O'=OO)):
  cZ prog base 53 [pV p k,iB,Ap,zP] OO (fun v O'=> ∃b l pb pc lb lc,v=.tuple #[.agg (c_ l pb pc lb lc).toArray,.bool b]∧O'=[ak pb pc 5 1 (ek l.pre),ak lb lc 5 1 (ek l.loop)]++OO∧Wf p.d al one two b l):=by
 refine aF func53 F ntmps53 F ?_
 have qw:=h.rows.1
 have Rg:p.d.next.length=p.next.length:=rfl
 refine a8 (au (e5 ((pC p k)) (fun z1=>?_)))
 refine au (e5 [iB] (fun z2=>?_) F hfc)
 refine au (bO dD (fun z3=>?_))
 refine ai (a8 (ai (a8 (au (io fB Value.bool (fun mv=>?_))))))
 refine ad (bY underlying34 bt) (ad (bp 3 underlying3) (au (jD (a:=p.start) (v:=true) 0 underlying83 (fZ.int underlying3) F F F F (by simp) ?_)))
 refine aQ (au (bO VC (fun z5=>?_)))
 refine au (cE [(.map (some mv))] 0 VC ?_)
 refine bJ (ad (bY underlying34 bt) (ad (bp 4 underlying3) (au (dv (v:=(vI p.start)) underlying22 bt F F F (fun z6=>?_)))))
 refine ai (aw ?_)
 let gC:Value:=(.pointer (aD z2))
 let gk:Value:=(.pointer (aD z5))
 let gS:Value:=(.func (.func 91) #[] #[])
 refine cS (fun(i:Nat) ρ O=> ∃(tb:Option Addr) (tc:Nat),O=([ak tb tc 3 1 (bn ((eh p.d i).drop i)),oI z5 83 [(.map (some mv))],cM fB Value.bool mv (iP (eh p.d i)),oI z3 29 [nS,nS],oI z2 85 [iB],oI z1 34 (pC p k)]++OO)∧i≤(eh p.d i).length∧cL [(0,(pV p k)),(1,iB),(2,Ap),(3,zP),(4,(.pointer (aD z1))),(5,gC),(8,(.pointer (aD z3))),(9,.bool false),(10,gS),(11,gk),(12,(.slice tb (((eh p.d i).drop i).length) tc))] ρ) (fun i=>p.next.length+1-i) 0 ?_ ?_
 ·refine⟨(aD z6),1,?_,aG _,(.of F)⟩
  rw[show iP (eh p.d 0)=_ from LW hv,show bn ((eh p.d 0).drop 0)=_ from Qp hv];rfl
 rintro i ρ O ⟨tb,tc,rfl,hi,hH⟩
 obtain⟨fy,rfl⟩:=hH.elim
 clear hH
 have hbl:=Fm (hv) i
 have Md:=List.length_drop (i:=i) (l:=eh p.d i)
 refine ba (bP (bV underlying22) (bF fg (aH F (fun hc=>?_) (fun hc=>?_))))
 ·have adZ:((eh p.d i).drop i).length>0:=by omega
  have gf:i<(eh p.d i).length:=by omega
  obtain⟨s,Mf⟩: ∃s,(eh p.d i)[i]? =some s:=⟨_,ah gf⟩
  have kB:s<p.next.length:=(uw (hv) i).2 s (bE Mf)
  have Q2:(bn ((eh p.d i).drop i))[0]? =some (vN s):=by rw[bc,List.getElem?_drop,Nat.add_zero,Mf];rfl
  obtain⟨v1,c1,g1,s1⟩:=h.rows.get kB
  have zY:p.next[s].length=dF p.d:=hv.len _ (ap kB)
  refine aE (ba (aw (ba ?_)))
  refine e6 [(0,0),(1,0),(2,0),(3,0),(4,0),(5,0),(6,0),(7,0),(8,0)] ?_
  refine am F (bY underlying34 dQ) (am F (bp 5 underlying24) (am F aC (am F (b8 0 underlying22 bt F F (bU 0) (by omega) (by rw[ag];omega)) (am F (dR underlying3 F F (bU 0) Q2) (am F (b8 s underlying24 cf F F (bS h.outer) kB (qw▸kB)) (am F (eA underlying22 F F h.outer g1) (am F (bV underlying22) (am F aC ?_))))))))
  refine cl ?_
  refine aw ?_
  refine cS (fun(x:Nat) ρ O=> ∃(tb:Option Addr) (tc:Nat),O=([ak tb tc 3 1 (bn ((nA p.d i s x).drop i)),oI z5 83 [(.map (some mv))],cM fB Value.bool mv (iP (nA p.d i s x)),oI z3 29 [nS,nS],oI z2 85 [iB],oI z1 34 (pC p k)]++OO)∧x≤dF p.d∧i<(nA p.d i s x).length∧cL [(0,(pV p k)),(1,iB),(2,Ap),(3,zP),(4,(.pointer (aD z1))),(5,gC),(8,(.pointer (aD z3))),(9,.bool false),(10,gS),(11,gk),(12,(.slice tb (((nA p.d i s x).drop i).length) tc)),(45,(.slice v1 p.next[s].length c1)),(46,vI (p.next[s].length:Int)),(47,vN x)] ρ) (fun x=>dF p.d-x) 0 ?_ ?_
  ·exact⟨tb,tc,F,aG _,gf,(.of F)⟩
  rintro x ρ O ⟨tb,tc,rfl,hx,aip,hH⟩
  obtain⟨fy,rfl⟩:=hH.elim
  clear hH
  have DB:=(OE hv (i:=i) (o:=s) (x:=x) kB hx).1
  have anm:=List.length_drop (i:=i) (l:=nA p.d i s x)
  refine aB cH (TO.ns (aH F (fun hc=>?_) (fun hc=>?_)))
  ·have Vr:x<p.next[s].length:=by omega
   have jm:x<dF p.d:=by omega
   obtain⟨tC,_,lM,YH⟩:=hv.fG (show s<p.d.next.length from kB) jm
   have ru:(ints p.next[s])[x]? =some (vN (di p.d s x)):=(eu lM).trans (av (fun a=>some (Value.int .i64 a)) YH)
   refine aE (ba (aw (aB (b8 x underlying22 bt F F (bS s1) lM (by rw[ag];exact lM)) (ad (eA underlying3 F F s1 ru) (ai (aB (bp 1 underlying83) (az (bH (jy (K:=fB) (V:=Value.bool) (a:=((di p.d s x:Nat):Int)) underlying83 eW (fZ.int underlying3) F F (mG 2)) (v':=.bool (decide (di p.d s x∈(nA p.d i s x)))) (by rw[←JR (nA p.d i s x) (di p.d s x)];cases eN ((di p.d s x:Nat):Int) (iP (nA p.d i s x))with|none=>rfl|some b=>cases b<;>rfl)) (bF gM (aH (p:=di p.d s x∉(nA p.d i s x)) (av Value.bool (by rw[decide_not])) (fun hc=>?_) (fun hc=>?_))))))))))
   ·have Ip:di p.d s x∉(nA p.d i s x):=hc
    refine aB (bp 1 underlying83) (aQ (au (oY (K:=fB) (V:=Value.bool) (a:=((di p.d s x:Nat):Int)) (v:=true) 2 underlying83 (fZ.int underlying3) F F F F (Qm Ip) ?_)))
    refine TO.nl (aJ (dr (au (dv (v:=vN (di p.d s x)) underlying22 bt F F F (fun z7=>?_)))))
    refine au (dp 1 underlying22 underlying22 bt F F F F (by simp) (by decide) (Src.row (j:=0) F (by simp)) (by simp[fL]) (by omega) (by decide) (by decide) (fun z8 DG=>?_))
    refine ai (aJ (ad (bK (b:=1) x F F (by omega)) (aS ?_)))
    exact⟨x+1,by omega,([ak z8 DG 3 1 ((bn ((nA p.d i s x).drop i))++[vN (di p.d s x)]),oI z5 83 [(.map (some mv))],cM fB Value.bool mv (iP (nA p.d i s x)++[(((di p.d s x:Nat):Int),true)]),oI z3 29 [nS,nS],oI z2 85 [iB],oI z1 34 (pC p k)]++OO),(by exact Sub.d (.k (.k (.k (.k (.k (.k .rf))))))),z8,DG,by rw[mZ,Dq Ip,LS,BH (by omega)];simp only[aL,bL,df],by omega,by rw[mZ,Dq Ip,aI];omega,⟨F,F,F,F,F,F,F,F,F,F,(by rw[mZ,Dq Ip,BH (by omega),aI];rfl),F,F,F,trivial⟩⟩
   have hold:di p.d s x∈(nA p.d i s x):=Classical.not_not.1 hc
   refine aE (aJ (ad (bK (b:=1) x F F (by omega)) (aS ?_)))
   exact⟨x+1,by omega,([ak tb tc 3 1 (bn ((nA p.d i s x).drop i)),oI z5 83 [(.map (some mv))],cM fB Value.bool mv (iP (nA p.d i s x)),oI z3 29 [nS,nS],oI z2 85 [iB],oI z1 34 (pC p k)]++OO),(by exact Sub.rf),tb,tc,by rw[mZ,Dp hold],by omega,by rw[mZ,Dp hold];exact aip,⟨F,F,F,F,F,F,F,F,F,F,(by rw[mZ,Dp hold];rfl),F,F,F,trivial⟩⟩
  have Vs: ¬x<p.next[s].length:=by omega
  refine bA ?_
  refine aJ (aQ (au (MW 0 underlying22 bt (by decide) F F F (by simp) (by omega) (fun iF=>?_))))
  refine ai ?_
  have SG:x=dF p.d:=by omega
  have e9:nA p.d i s x=eh p.d (i+1):=by rw[SG];exact Qn Mf
  have e8:(eh p.d (i+1)).drop (i+1)=((eh p.d (i+1)).drop i).drop 1:=by rw[List.drop_drop]
  exact⟨i+1,by omega,([ak iF (tc-1) 3 1 ((bn ((nA p.d i s x).drop i)).drop 1),oI z5 83 [(.map (some mv))],cM fB Value.bool mv (iP (nA p.d i s x)),oI z3 29 [nS,nS],oI z2 85 [iB],oI z1 34 (pC p k)]++OO),(by exact Sub.rf),iF,tc-1,by rw[e9,e8,←List.map_drop],by rw[←e9];omega,⟨F,F,F,F,F,F,F,F,F,F,(by rw[e9,List.length_drop,List.length_drop,Nat.sub_sub];rfl),trivial⟩⟩
 have ad0: ¬((eh p.d i).drop i).length>0:=by omega
 refine bA ?_
 refine ba ?_
 have r_:(eh p.d i).length=i:=by omega
 have aiq:order p.d=eh p.d i:=Fo r_ (by have h9:p.d.next.length=p.next.length:=rfl;omega)
 refine aJ (ad (dZ) (bh (bJ (ad (eg 5 underlying34 cQ) (TO.lc VF (aK fun w1 hI=>(haveI:=Inv.tab (P:=prog) hI;ofC w1 p k)) ?_)))))
 rintro vr O' ⟨N,rfl,gx,rfl,rfl⟩
 refine aQ ?_
 have aex:=cZ.atR (O:=([oI gx 34 (pC p k),ak tb tc 3 1 (bn ((eh p.d i).drop i)),oI z5 83 [(.map (some mv))],cM fB Value.bool mv (iP (eh p.d i)),oI z3 29 [nS,nS],oI z2 85 [iB],oI z1 34 (pC p k)]++OO)) [ak tb tc 3 1 (bn ((eh p.d i).drop i)),oI z3 29 [nS,nS],oI z1 34 (pC p k)] (wA base p k h hv hn hw (P9 hv) ([oI z5 83 [(.map (some mv))],cM fB Value.bool mv (iP (eh p.d i)),oI z2 85 [iB]]++OO) (Y4 p.d al) (.func (.func 92) #[] #[gk,gC]) F (fun u hu=>b_ (first:=[]) (args:=[vN u]) (fU:=[gk,gC]) adm (aiq▸aio base z5 mv z2 (eh p.d i) iB al OO u (yp u hu))) gx) (by exact Sub.dm [oI gx 34 (pC p k)] _ (.dm [oI gx 34 (pC p k),oI z5 83 [(.map (some mv))],cM fB Value.bool mv (iP (eh p.d i))] _ (.dm [oI gx 34 (pC p k),oI z5 83 [(.map (some mv))],cM fB Value.bool mv (iP (eh p.d i)),oI z2 85 [iB]] _ (.k (.k (.k (.k .rf)))))))
 refine TO.lc VH aex ?_
 clear aex
 rintro vr O' ⟨A1,rfl,all,Gn,Gp,ps,rfl,rfl,Hp,Dk⟩
 have xC:=BE Hp
 have aih:=Dk.ZR
 refine ad (bV underlying24) (aS (aw ?_))
 refine cV (O':=[ak tb tc 3 1 (bn ((eh p.d i).drop i)),oI z3 29 [nS,nS],oI z1 34 (pC p k),ak Gn Gp 22 1 (bW ps),oI gx 34 (pC p k),oI z5 83 [(.map (some mv))],cM fB Value.bool mv (iP (eh p.d i)),oI z2 85 [iB]]++(bQ 3 ps++OO)) (rG Sub.rf) ?_
 refine cS (fun(i3:Nat) ρ O=>O=([ak tb tc 3 1 (bn ((eh p.d i).drop i)),oI z3 29 [nS,nS],oI z1 34 (pC p k),ak Gn Gp 22 1 (bW ps),oI gx 34 (pC p k),oI z5 83 [(.map (some mv))],cM fB Value.bool mv (iP (eh p.d i)),oI z2 85 [iB]]++(bQ 3 ps++OO))∧i3≤all.length∧Qo one two (all.take i3)∧cL [(0,(pV p k)),(1,iB),(2,Ap),(3,zP),(4,(.pointer (aD z1))),(5,gC),(8,(.pointer (aD z3))),(9,.bool false),(10,gS),(11,gk),(12,(.slice tb (((eh p.d i).drop i).length) tc)),(15,(.func (.func 92) #[] #[gk,gC])),(66,(.slice Gn ps.length Gp)),(67,vI (ps.length:Int)),(68,vN i3)] ρ) (fun i3=>all.length-i3) 0 ?_ ?_
 ·exact⟨F,aG _,(fun P hP=>(List.not_mem_nil hP).elim),(.of F)⟩
 rintro i3 ρ O ⟨rfl,hi3,hF,hH⟩
 obtain⟨fy,rfl⟩:=hH.elim
 clear hH
 refine aB cH (TO.ns (aH F (fun hc=>?_) (fun hc=>?_)))
 ·have aeo:i3<ps.length:=by omega
  have T0:i3<all.length:=by omega
  obtain⟨l,mB⟩: ∃l,all[i3]=l:=⟨_,F⟩
  obtain⟨TR,TT,DL⟩:=Gf Hp T0
  rw[mB]at DL
  have AS:i3<ps.length:=by omega
  have Mq:l∈all:=mB▸ap T0
  have mz:=Dk.sub l Mq
  have tJ:l.length≤4096:=by
   have h1:=Dk.len
   have h2:l.length≤all.flatten.length:=(List.sublist_flatten_of_mem Mq).length_le
   omega
  have hly:=pf l
  refine aE (ba (aw (a8 ?_)))
  refine ad (b8 i3 underlying24 cf F F (bU 3) AS (by rw[ag];exact AS)) (ad (dR underlying22 F F (bU 3) (by rw[bc,DL];rfl)) ?_)
  refine au (bO cf (fun gO=>?_))
  let dC:List Value:=[(.slice TR ((dY l).length) TT)]
  refine au (cE dC 0 cf ?_)
  refine TO.nl (aB (bp 0 underlying22) (aQ ?_))
  have Oq:=zu base TR TT (dY l) ([oI gO 22 dC,ak tb tc 3 1 (bn ((eh p.d i).drop i)),oI z3 29 [nS,nS],oI z1 34 (pC p k),ak Gn Gp 22 1 (bW ps),oI gx 34 (pC p k),oI z5 83 [(.map (some mv))],cM fB Value.bool mv (iP (eh p.d i)),oI z2 85 [iB]]++(bQ 3 ps++OO)) (fun w9 wV=>by rw[lN];exact wV.ga (bl _ (a_ _ (iO DL)))) (by omega) Ap (fun x=>decide (one x.toNat=true)) (fun x hx=>by obtain⟨u,hu,rfl⟩:=Gk hx;exact eY ([oI gO 22 dC,ak tb tc 3 1 (bn ((eh p.d i).drop i)),oI z3 29 [nS,nS],oI z1 34 (pC p k),ak Gn Gp 22 1 (bW ps),oI gx 34 (pC p k),oI z5 83 [(.map (some mv))],cM fB Value.bool mv (iP (eh p.d i)),oI z2 85 [iB]]++bQ 3 ps) (Cc u (mz u hu).1))
  refine TO.lc VO Oq ?_
  clear Oq
  rintro vr O' ⟨i9,rfl,vM,e9⟩
  rw[e9]
  clear e9
  refine bh (bJ (aQ ?_))
  by_cases h76:i9<0
  ·refine ad (cm cH h76) ?_
   refine aQ (cP (bF bR ?_))
   refine cJ ?_
   refine bA ?_
   refine aJ (ad (bK (b:=1) i3 F F (by omega)) (aS ?_))
   exact⟨i3+1,by omega,([ak tb tc 3 1 (bn ((eh p.d i).drop i)),oI z3 29 [nS,nS],oI z1 34 (pC p k),ak Gn Gp 22 1 (bW ps),oI gx 34 (pC p k),oI z5 83 [(.map (some mv))],cM fB Value.bool mv (iP (eh p.d i)),oI z2 85 [iB]]++(bQ 3 ps++OO)),(by exact Sub.d (.k (.k (.k (.k (.k (.k (.k (.k .rf))))))))),F,by omega,hF.step T0 (by rw[mB];first|exact(fun g=>aey g.2)|exact(fun g=>Im (vM.resolve_right (fun⟨k9,hk9,e9,_⟩=>by omega)).2 g.1)),(.of F)⟩
  refine ad (cD cH h76) (aQ (ax (bp 0 underlying22) (ax aC ?_)))
  have aez:=oo base TR TT (dY l) ([oI gO 22 dC,ak tb tc 3 1 (bn ((eh p.d i).drop i)),oI z3 29 [nS,nS],oI z1 34 (pC p k),ak Gn Gp 22 1 (bW ps),oI gx 34 (pC p k),oI z5 83 [(.map (some mv))],cM fB Value.bool mv (iP (eh p.d i)),oI z2 85 [iB]]++(bQ 3 ps++OO)) (fun w9 wV=>by rw[lN];exact wV.ga (bl _ (a_ _ (iO DL)))) (by omega) zP (fun x=>decide (two x.toNat=true)) (fun x hx=>by obtain⟨u,hu,rfl⟩:=Gk hx;exact eY ([oI gO 22 dC,ak tb tc 3 1 (bn ((eh p.d i).drop i)),oI z3 29 [nS,nS],oI z1 34 (pC p k),ak Gn Gp 22 1 (bW ps),oI gx 34 (pC p k),oI z5 83 [(.map (some mv))],cM fB Value.bool mv (iP (eh p.d i)),oI z2 85 [iB]]++bQ 3 ps) (TZ u (mz u hu).1))
  refine fD F F F (dV Mx aez ?_)
  clear aez
  rintro vr O' ⟨rfl,e9⟩
  rw[e9]
  clear e9
  refine ax gM (bF ca (aH (p:= ¬((dY l).any fun x=>decide (two x.toNat=true))=true) (av Value.bool (by cases(dY l).any fun x=>decide (two x.toNat=true)<;>rfl)) (fun hc=>?_) (fun hc=>?_)))
  ·have aey: ¬ ∃v∈l,two v=true:=Im (Bool.eq_false_iff.2 hc)
   refine bA ?_
   refine aJ (ad (bK (b:=1) i3 F F (by omega)) (aS ?_))
   exact⟨i3+1,by omega,([ak tb tc 3 1 (bn ((eh p.d i).drop i)),oI z3 29 [nS,nS],oI z1 34 (pC p k),ak Gn Gp 22 1 (bW ps),oI gx 34 (pC p k),oI z5 83 [(.map (some mv))],cM fB Value.bool mv (iP (eh p.d i)),oI z2 85 [iB]]++(bQ 3 ps++OO)),(by exact Sub.d (.k (.k (.k (.k (.k (.k (.k (.k .rf))))))))),F,by omega,hF.step T0 (by rw[mB];first|exact(fun g=>aey g.2)|exact(fun g=>Im (vM.resolve_right (fun⟨k9,hk9,e9,_⟩=>by omega)).2 g.1)),(.of F)⟩
  obtain⟨u9,YX,ais⟩:=TX (Classical.not_not.1 hc)
  obtain⟨k9,hk9,rfl,aeA,_⟩: ∃(k9:Nat) (hk:k9<(dY l).length),i9=(k9:Int)∧decide (one ((dY l)[k9]).toNat=true)=true∧((dY l).take k9).any (fun x=>decide (one x.toNat=true))=false:=vM.resolve_left (fun g=>by omega)
  have aeB:k9<l.length:=by omega
  obtain⟨s9,Hc⟩: ∃s9,l[k9]=s9:=⟨_,F⟩
  have Gq:s9∈l:=Hc▸ap aeB
  have Mh:one s9=true:=by rw[Qq hk9,Int.toNat_natCast,Hc]at aeA;exact of_decide_eq_true aeA
  have ait:=(mz s9 Gq).1
  have GR:(bn l)[k9]? =some (vN s9):=by rw[←Hc];exact dK aeB
  refine aE (aB (bp 0 underlying22) (az (b8 k9 underlying22 bt F F (fun w9 wV=>wV.ga (bl _ (a_ _ (iO DL)))) (by omega) (by rw[ag];omega)) (ad (dR underlying3 F F (fun w9 wV=>wV.ga (bl _ (a_ _ (iO DL)))) GR) (au (bO bt (fun z12=>?_))))))
  refine au (cE [(vN s9)] 0 bt ?_)
  refine TO.nl (aB (dZ) (ai (aB (bY underlying34 dQ) (ad (bp 4 underlying24) (ad (bY underlying34 bt) (ad (bp 4 underlying3) (az (dZ) ?_)))))))
  let dM:List Value:=[(.slice TR ((dY l).length) TT)]
  let eE:List Value:=[(.pointer (aD z12))]
  have Of:=Dr (bq hv.s0) (cZ.atR (O:=([oI z12 3 [(vN s9)],oI gO 22 dM,ak tb tc 3 1 (bn ((eh p.d i).drop i)),oI z3 29 [nS,nS],oI z1 34 (pC p k),ak Gn Gp 22 1 (bW ps),oI gx 34 (pC p k),oI z5 83 [(.map (some mv))],cM fB Value.bool mv (iP (eh p.d i)),oI z2 85 [iB]]++(bQ 3 ps++OO))) [oI gO 22 dM,ak tb tc 3 1 (bn ((eh p.d i).drop i)),oI z3 29 [nS,nS],oI z1 34 (pC p k),ak Gn Gp 22 1 (bW ps),oI gx 34 (pC p k),oI z5 83 [(.map (some mv))],cM fB Value.bool mv (iP (eh p.d i)),oI z2 85 [iB]] (PP base p.d k.nb k.nc (bW k.qs) h.outer h.rows hv hn hw ([oI z12 3 [(vN s9)]]++(bQ 3 ps++OO)) (fun _=>true) (fun u=>decide (u=s9)) gS (.func (.func 95) #[] eE.toArray) (fun u _=>Aq (b_ (first:=[]) (args:=[vN u]) (fU:=[]) adl (aim base u))) (fun u _=>dS.pick [0] [oI z12 3 [(vN s9)]] (bQ 3 ps++OO) [oI z12 3 [(vN s9)]] F (b_ (first:=[]) (args:=[vN u]) (fU:=eE) adn (ain base z12 s9 u))) p.d.start.toNat (oT (hv)) (LV hv Dk Mq Gq)) (by exact Sub.dm [oI z12 3 [(vN s9)]] _ (.dm [oI z12 3 [(vN s9)]] _ (.dm [oI z12 3 [(vN s9)]] _ (.dm [oI z12 3 [(vN s9)]] _ (.dm [oI z12 3 [(vN s9)]] _ (.dm [oI z12 3 [(vN s9)]] _ (.dm [oI z12 3 [(vN s9)]] _ (.dm [oI z12 3 [(vN s9)]] _ (.dm [oI z12 3 [(vN s9)]] _ (.k .rf)))))))))))
  refine TO.lc Jp Of ?_
  clear Of
  rintro vr O' ⟨A1,rfl,y1,t1,Q9,Q_,AO,rfl,rfl⟩
  have ht1:t1=s9:=of_decide_eq_true AO.to_
  rw[ht1]at AO
  have hl1:=l5 (d:=p.d) (by omega) AO
  refine az (bX _) (ad (bX _) (bh (ai (aB (bY underlying34 dQ) (ad (bp 3 underlying24) (ad (bp 10 underlying3) (dr ?_)))))))
  let fo:List Value:=[(.pointer (aD gO))]
  let iC:Value:=(.func (.func 93) #[] fo.toArray)
  have Wg:=cZ.atR (O:=([oI gO 22 dM,ak tb tc 3 1 (bn ((eh p.d i).drop i)),oI z3 29 [nS,nS],oI z1 34 (pC p k),ak Gn Gp 22 1 (bW ps),oI gx 34 (pC p k),oI z5 83 [(.map (some mv))],cM fB Value.bool mv (iP (eh p.d i)),oI z2 85 [iB],ak Q9 Q_ 5 1 (ek y1),oI z12 3 [(vN s9)]]++(bQ 3 ps++OO))) [ak tb tc 3 1 (bn ((eh p.d i).drop i)),oI z3 29 [nS,nS],oI z1 34 (pC p k),ak Gn Gp 22 1 (bW ps),oI gx 34 (pC p k),oI z5 83 [(.map (some mv))],cM fB Value.bool mv (iP (eh p.d i)),oI z2 85 [iB],ak Q9 Q_ 5 1 (ek y1),oI z12 3 [(vN s9)]] (PP base p.d k.nb k.nc (bW k.qs) h.outer h.rows hv hn hw ([oI gO 22 dM]++(bQ 3 ps++OO)) (fun u=>decide (u∈l)) two iC zP (fun u _=>b_ (first:=[]) (args:=[vN u]) (fU:=fo) Ow (Y7 base gO TR TT l (dY l).length hly (by omega) (bQ 3 ps++OO) (fun w9 wV=>wV.ga (bl _ (a_ _ (iO DL)))) u)) (fun u hu=>eY ([oI gO 22 dM]++bQ 3 ps) (TZ u hu)) s9 ait (vH hv Dk Mq Gq YX ais false)) (by exact Sub.dm [oI gO 22 dM] _ (.dm [oI gO 22 dM] _ (.dm [oI gO 22 dM] _ (.dm [oI gO 22 dM] _ (.dm [oI gO 22 dM] _ (.dm [oI gO 22 dM] _ (.dm [oI gO 22 dM] _ (.dm [oI gO 22 dM] _ (.dm [oI gO 22 dM] _ (.dm [oI gO 22 dM] _ (.k .rf)))))))))))
  refine TO.lc Jp Wg ?_
  clear Wg
  rintro vr O' ⟨A1,rfl,y2,t2,wb2,wc2,Hf,rfl,rfl⟩
  have hl2:=l5 (d:=p.d) (by omega) Hf
  have Y9:t2∈l:=by
   by_cases e:y2=[]
   ·have h9:=Hf.run;rw[e]at h9;exact(show s9=t2 from h9)▸Gq
   ·have h9:=Qv p.d y2 s9 e;rw[Hf.run]at h9;exact of_decide_eq_true (Hf.B2 _ h9)
  have aeC:=(mz t2 Y9).1
  refine az (bX _) (ad (bX _) (bh (ai (aB (bY underlying34 dQ) (ad (bp 2 underlying24) (aQ (az (bp 9 underlying3) ?_)))))))
  by_cases T1:((t2:Nat):Int)=((s9:Nat):Int)
  ·refine ad (cm en T1) ?_
   refine az (dZ) ?_
   have Gr:=cZ.atR (O:=([ak tb tc 3 1 (bn ((eh p.d i).drop i)),oI z3 29 [nS,nS],oI z1 34 (pC p k),ak Gn Gp 22 1 (bW ps),oI gx 34 (pC p k),oI z5 83 [(.map (some mv))],cM fB Value.bool mv (iP (eh p.d i)),oI z2 85 [iB],ak Q9 Q_ 5 1 (ek y1),oI z12 3 [(vN s9)],ak wb2 wc2 5 1 (ek y2),oI gO 22 dM]++(bQ 3 ps++OO))) [ak tb tc 3 1 (bn ((eh p.d i).drop i)),oI z3 29 [nS,nS],oI z1 34 (pC p k),ak Gn Gp 22 1 (bW ps),oI gx 34 (pC p k),oI z5 83 [(.map (some mv))],cM fB Value.bool mv (iP (eh p.d i)),oI z2 85 [iB],ak Q9 Q_ 5 1 (ek y1),ak wb2 wc2 5 1 (ek y2)] (ad3 base p.d k.nb k.nc (bW k.qs) h.outer h.rows hv hn hw ([oI gO 22 dM,oI z12 3 [(vN s9)]]++(bQ 3 ps++OO)) (fun u=>decide (u∈l)) (fun u=>decide (u=s9)) iC (.func (.func 96) #[] eE.toArray) (fun u _=>b_ (first:=[]) (args:=[vN u]) (fU:=fo) Ow (Y7 base gO TR TT l (dY l).length hly (by omega) ([oI z12 3 [(vN s9)]]++(bQ 3 ps++OO)) (fun w9 wV=>wV.ga (bl _ (bl _ (a_ _ (iO DL))))) u)) (fun u _=>dS.pick [1] [oI gO 22 dM,oI z12 3 [(vN s9)]] (bQ 3 ps++OO) [oI z12 3 [(vN s9)]] F (b_ (first:=[]) (args:=[vN u]) (fU:=eE) VP (aew base z12 s9 u))) t2 aeC (vH hv Dk Mq Y9 Gq (bz F) true)) (by exact Sub.k (.k (.k (.k (.k (.k (.k (.k (.k (.dm [oI z12 3 [(vN s9)]] _ (.dm [oI z12 3 [(vN s9)]] _ (.k .rf))))))))))))
   refine TO.lc Jp Gr ?_
   clear Gr
   rintro vr O' ⟨A1,rfl,y3,t3_,wb3,wc3,B9,rfl,rfl⟩
   have ht3:t3_=s9:=of_decide_eq_true B9.to_
   rw[ht3]at B9
   have hl3:=l5 (d:=p.d) (by omega) B9
   refine az (bX _) (ad (bX _) (bh (ai (ba ?_))))
   have Qw:0<y2.length+y3.length:=by
    by_cases e:t2=s9
    ·have:=B9.ne (by first|rfl|exact absurd (show((t2:Nat):Int)=((s9:Nat):Int) by omega) T1);have:=List.length_pos_iff.2 this;omega
    ·have:y3≠ []:=fun e9=>by have h9:=B9.run;rw[e9]at h9;exact e h9
     have:=List.length_pos_iff.2 this;omega
   have Q8:DR ⟨y1,y2++y3⟩:=⟨by show y1.length≤1000000;omega,by show(y2++y3).length≤1000000;rw[aI];omega,fun x hx=>by have:=AO.wd x hx;omega,fun x hx=>by rcases List.mem_append.1 hx with hx|hx;(have:=Hf.wd x hx;omega);(have:=B9.wd x hx;omega)⟩
   refine aJ (aQ (dr (au (dp 9 underlying27 underlying27 fS F F F F (by simp) (by decide) (Src.row (j:=10) F (by simp)) (by simp[fL]) (by omega) (by decide) (by decide) (fun KJ KS=>?_)))))
   refine ad (dy [(.slice Q9 y1.length Q_),(.slice KJ (y2.length+y3.length) KS)] mF dD (by kernel_rfl)) (TO.lc VQ (aK fun w1 hI=>(haveI:=Inv.tab (P:=prog) hI;zO w1 y1 y2 y3 Q9 KJ Q_ KS (qF.rows (hI.row (i:=8) F) (by show rowP _ _ _ 1 (ek (y2++y3)) w1;rw[show ek (y2++y3)=ek y2++ek y3 from aL];exact hI.row (i:=9) F)) Q8 (by show 0<(y2++y3).length;rw[aI];have:=Qw;omega))) ?_)
   rintro vr O' ⟨N,rfl,c9,jZ,Y_,j5,Za,rfl,rfl,Zb⟩
   refine au (cE [(.slice jZ c9.pre.length j5),(.slice Y_ c9.loop.length Za)] 3 dD ?_)
   refine bm ?_
   refine dT (.bool true) (i:=3) results53 underlying29 F dD F F F F ?_
   exact⟨[ak jZ j5 5 1 (ek c9.pre),ak Y_ Za 5 1 (ek c9.loop)]++OO,oF (by exact Sub.k (.k (.d (.d (.d (.d (.d (.d (.d (.d (.d (.d (.d (.d (.d .rf))))))))))))))),true,c9,jZ,j5,Y_,Za,F,F,BI hv Dk Mq Gq Mh AO Hf (by rw[bz (show t2=s9 by omega)];exact B9) Zb⟩
  refine ad (cD en T1) (az (dZ) ?_)
  have Gr:=cZ.atR (O:=([ak tb tc 3 1 (bn ((eh p.d i).drop i)),oI z3 29 [nS,nS],oI z1 34 (pC p k),ak Gn Gp 22 1 (bW ps),oI gx 34 (pC p k),oI z5 83 [(.map (some mv))],cM fB Value.bool mv (iP (eh p.d i)),oI z2 85 [iB],ak Q9 Q_ 5 1 (ek y1),oI z12 3 [(vN s9)],ak wb2 wc2 5 1 (ek y2),oI gO 22 dM]++(bQ 3 ps++OO))) [ak tb tc 3 1 (bn ((eh p.d i).drop i)),oI z3 29 [nS,nS],oI z1 34 (pC p k),ak Gn Gp 22 1 (bW ps),oI gx 34 (pC p k),oI z5 83 [(.map (some mv))],cM fB Value.bool mv (iP (eh p.d i)),oI z2 85 [iB],ak Q9 Q_ 5 1 (ek y1),ak wb2 wc2 5 1 (ek y2)] (PP base p.d k.nb k.nc (bW k.qs) h.outer h.rows hv hn hw ([oI gO 22 dM,oI z12 3 [(vN s9)]]++(bQ 3 ps++OO)) (fun u=>decide (u∈l)) (fun u=>decide (u=s9)) iC (.func (.func 96) #[] eE.toArray) (fun u _=>b_ (first:=[]) (args:=[vN u]) (fU:=fo) Ow (Y7 base gO TR TT l (dY l).length hly (by omega) ([oI z12 3 [(vN s9)]]++(bQ 3 ps++OO)) (fun w9 wV=>wV.ga (bl _ (bl _ (a_ _ (iO DL))))) u)) (fun u _=>dS.pick [1] [oI gO 22 dM,oI z12 3 [(vN s9)]] (bQ 3 ps++OO) [oI z12 3 [(vN s9)]] F (b_ (first:=[]) (args:=[vN u]) (fU:=eE) VP (aew base z12 s9 u))) t2 aeC (vH hv Dk Mq Y9 Gq (bz F) false)) (by exact Sub.k (.k (.k (.k (.k (.k (.k (.k (.k (.dm [oI z12 3 [(vN s9)]] _ (.dm [oI z12 3 [(vN s9)]] _ (.k .rf))))))))))))
  refine TO.lc Jp Gr ?_
  clear Gr
  rintro vr O' ⟨A1,rfl,y3,t3_,wb3,wc3,B9,rfl,rfl⟩
  have ht3:t3_=s9:=of_decide_eq_true B9.to_
  rw[ht3]at B9
  have hl3:=l5 (d:=p.d) (by omega) B9
  refine az (bX _) (ad (bX _) (bh (ai (ba ?_))))
  have Qw:0<y2.length+y3.length:=by
   by_cases e:t2=s9
   ·have:=B9.ne (by first|rfl|exact absurd (show((t2:Nat):Int)=((s9:Nat):Int) by omega) T1);have:=List.length_pos_iff.2 this;omega
   ·have:y3≠ []:=fun e9=>by have h9:=B9.run;rw[e9]at h9;exact e h9
    have:=List.length_pos_iff.2 this;omega
  have Q8:DR ⟨y1,y2++y3⟩:=⟨by show y1.length≤1000000;omega,by show(y2++y3).length≤1000000;rw[aI];omega,fun x hx=>by have:=AO.wd x hx;omega,fun x hx=>by rcases List.mem_append.1 hx with hx|hx;(have:=Hf.wd x hx;omega);(have:=B9.wd x hx;omega)⟩
  refine aJ (aQ (dr (au (dp 9 underlying27 underlying27 fS F F F F (by simp) (by decide) (Src.row (j:=10) F (by simp)) (by simp[fL]) (by omega) (by decide) (by decide) (fun DH aeD=>?_)))))
  refine ad (dy [(.slice Q9 y1.length Q_),(.slice DH (y2.length+y3.length) aeD)] mF dD (by kernel_rfl)) (TO.lc VQ (aK fun w1 hI=>(haveI:=Inv.tab (P:=prog) hI;zO w1 y1 y2 y3 Q9 DH Q_ aeD (qF.rows (hI.row (i:=8) F) (by show rowP _ _ _ 1 (ek (y2++y3)) w1;rw[show ek (y2++y3)=ek y2++ek y3 from aL];exact hI.row (i:=9) F)) Q8 (by show 0<(y2++y3).length;rw[aI];have:=Qw;omega))) ?_)
  rintro vr O' ⟨N,rfl,c9,jZ,Y_,j5,Za,rfl,rfl,Zb⟩
  refine au (cE [(.slice jZ c9.pre.length j5),(.slice Y_ c9.loop.length Za)] 3 dD ?_)
  refine bm ?_
  refine dT (.bool true) (i:=3) results53 underlying29 F dD F F F F ?_
  exact⟨[ak jZ j5 5 1 (ek c9.pre),ak Y_ Za 5 1 (ek c9.loop)]++OO,oF (by exact Sub.k (.k (.d (.d (.d (.d (.d (.d (.d (.d (.d (.d (.d (.d (.d .rf))))))))))))))),true,c9,jZ,j5,Y_,Za,F,F,BI hv Dk Mq Gq Mh AO Hf (by rw[bT (show¬t2=s9 by omega)];exact B9) Zb⟩
 have aep: ¬i3<ps.length:=by omega
 refine bA ?_
 refine ba (T.dH 5 1 (T.dH 5 1 ?_))
 refine aJ (ad (dy _ mF dD F) (au (cE [nS,nS] 3 dD ?_)))
 refine bm ?_
 refine dT (.bool false) (i:=3) results53 underlying29 F dD F F F F ?_
 have NY:all.take i3=all:=aN (by omega)
 rw[NY]at hF
 exact⟨[ak none 0 5 1 [],ak none 0 5 1 []]++OO,oF (by exact Sub.k (.k (.d (.d (.d (.d (.d (.d (.d (.d .rf)))))))))),false,⟨[],[]⟩,none,0,none,0,F,F,⟨F,LU hv Dk hF⟩⟩
end Go.Proofs.YtjcophmajgcehaaGreatDoor

/- Contracts of functions of the program, and what they answer. Conditions: those each theorem names. -/
import Derived.Test.YtgdbfideeeegmaaGreatDoorA2
import Derived.Test.YtgdbfideeeegmaaGreatDoorA8
import Derived.Test.YtgdbfideeeegmaaGreatDoorA7
import Derived.Laws.StructEq
import Derived.Shelf.Small.Bits
set_option linter.unusedSectionVars false
set_option linter.unusedSimpArgs false
set_option linter.unusedVariables false
set_option linter.unnecessarySimpa false
set_option maxHeartbeats 8000000
set_option maxRecDepth 20000
namespace Go.Proofs.YtgdbfideeeegmaaGreatDoor
open Go.Lx Go.RowKit _root_.Go.Proofs.Tryz
theorem Iw {ls:List Lf} {vs:Nat} (hG:gU ls vs) {l:List CR} {x:CR} (hl: ∀y∈l,im ls y.cf) (hx:im ls x.cf):(l.any fun y=>decide (y.cf.key=x.cf.key))=decide (x.cf∈l.map CR.cf):=by
 by_cases h:x.cf∈l.map CR.cf
 ·rw[decide_eq_true h]
  obtain⟨y,hy,e⟩:=List.mem_map.1 h
  exact List.any_eq_true.2 ⟨y,hy,decide_eq_true (by rw[e])⟩
 ·rw[decide_eq_false h,List.any_eq_false]
  intro y hy h9
  exact h (List.mem_map.2 ⟨y,hy,key_inj hG (hl y hy) hx (of_decide_eq_true h9)⟩)
theorem Xa (base:World) [cG Tryz.prog base] {ls:List Lf} {vs:Nat} (hG:gU ls vs) (ov:Value) (zs:Nat) (bh:Value) (cb:Option Addr) (cc:Nat) (l:List CR) (p:List OB) (x:CR) (hl: ∀y∈l,im ls y.cf) (hp: ∀y∈l,kG p y.r) (hx:im ls x.cf) (J5:kG p x.r) (hK:l.length<1099511627776):
  bw Tryz.prog base 114 [ov,(.pointer (aD zs)),(.agg #[vI x.k,vN x.s,(.slice x.r.b x.r.o.length x.r.c)])] ([oI zs 122 [bh,(.slice cb l.length cc)],ak cb cc 169 3 (cz l)]++eR 173 p) (fun v O'=> ∃sU sV,v=.tuple #[]∧O'=[oI zs 122 [bh,(.slice sU ((xf l x).length) sV)],ak sU sV 169 3 (cz (xf l x))]++eR 173 p):=by
 refine av func114 F ntmps114 F ?_
 refine ai (aj F (cL (cs:=[vI x.k,vN x.s,(.slice x.r.b x.r.o.length x.r.c)]) F F (fun z1=>?_)))
 refine ae (ai (ad (dX) (TO.qa F (ae (ai (ah F (ad (aP F) (ad (aJ iC F o8 F F) (ad (aO 1 mz F F F F) (ah F ?_))))))))))
 have rS:=fun(w1:World) (hI:Inv base ([oI z1 169 [vI x.k,vN x.s,(.slice x.r.b x.r.o.length x.r.c)],oI zs 122 [bh,(.slice cb l.length cc)],ak cb cc 169 3 (cz l)]++(eR 173 p)) w1)=>(haveI:=dp hI;(show bs _ _ _ _ (fun v N=>v=Value.bool (decide (x.cf∈l.map CR.cf))∧N=[])from by
   have h9:=o7 w1 cb cc l (hI.eV (mG 2 F)) (by omega) ((.func (.func 166) #[] #[(du (aD z1) 0)])) (fun y=>decide (y.cf.key=x.cf.key)) (fun y hy=>b_ (first:=[]) (args:=[(.agg #[vI y.k,vN y.s,(.slice y.r.b y.r.o.length y.r.c)])]) (fK:=[(du (aD z1) 0)]) PM (TT w1 x y z1 (hI.iX (mG 0 F)) (kG.sl (T:=173) hI (fun it di=>List.mem_append_right _ di) J5) (hx.num hG) (hx.PN hG) (kG.sl (T:=173) hI (fun it di=>List.mem_append_right _ di) (hp y hy)) ((hl y hy).num hG) ((hl y hy).PN hG)))
   rw[Iw hG hl hx]at h9
   exact h9))
 refine aj F (aI Ix (aE rS) F ?_)
 clear rS
 rintro vr O' ⟨N,rfl,rfl,rfl⟩
 refine ad (f_ F) (ae (T.cond F (fun hc=>?_) (fun hc=>?_)))
 ·refine T.ds [oI z1 169 [vI x.k,vN x.s,(.slice x.r.b x.r.o.length x.r.c)],oI zs 122 [bh,(.slice cb l.length cc)]] [(0,0),(1,0),(2,0),(3,0),(4,0),(5,0),(6,1),(7,1),(8,0),(9,0),(10,2)] (by exact Sub.k (.k .z)) ?_
  refine am F (aF F) (am F (aF F) (am F (aP F) (am F (aJ iC F o8 F F) (am F (aO 1 mz F F F F) (am F (cN 0 jR F gV F F F) ?_)))))
  refine bJ F F (bH (m:=1) (parts:=[(0,_)]) (cs:=[vI x.k,vN x.s,(.slice x.r.b x.r.o.length x.r.c)]) mz gV (by decide) (by kernel_rfl) F (fun z2=>⟨by exact Sub.d (.k (.k .z)),?_⟩))
  refine bJ F F (bX 3 mz mz gV F F F F (by rw[nO]) (by decide) (Src.row (j:=0) F (by simp)) (by simp[dD]) (by omega) (by decide) (by decide) (fun z3 oh=>⟨by exact Sub.d (.k (.k .z)),?_⟩))
  refine am F (aP F) (am F (aJ iC F o8 F F) ?_)
  refine bq F F (bj (vs:=[(.slice z3 (l.length+1) oh)]) 2 o8 F F F F ?_)
  refine bu ?_
  refine ao ?_
  refine qb.zero Tryz.results114 ?_
  have e9:xf l x=l++[x]:=if_neg (by simpa using hc)
  exact⟨[oI zs 122 [bh,(.slice z3 (l.length+1) oh)],ak z3 oh 169 3 ((cz l)++[vI x.k,vN x.s,(.slice x.r.b x.r.o.length x.r.c)])]++eR 173 p,(by exact Sub.d (.d (.k (.k .rf)))),z3,oh,F,by rw[e9,Bj,List.length_append];rfl⟩
 refine aq (ao ?_)
 refine qb.zero Tryz.results114 ?_
 have e9:xf l x=l:=if_pos (by simpa using hc)
 exact⟨[oI zs 122 [bh,(.slice cb l.length cc)],ak cb cc 169 3 (cz l)]++eR 173 p,(by exact Sub.d (.k (.k .rf))),cb,cc,F,by rw[e9]⟩
end Go.Proofs.YtgdbfideeeegmaaGreatDoor

namespace Go.Lx
open Go.RowKit
section
variable {P:Program} {base:World} {O:List Item} {ρ:Env} {dst:Option Nat} {t:TypeId} {p:String} {af:Array Edge} {g:Option (Nat×Bool)}
theorem Dn {T E:TypeId} {z:Value} {fx:Nat} (hu:P.underlying T=some (.array 2 E)) (hE:P.underlying E=some (.int .i64)) (hi:eS P E z 1 fx) (n:Nat) (a b c d:Int) (w:World):
  (Op.equalIn (n+2) T (.agg #[.int .i64 a,.int .i64 b]) (.agg #[.int .i64 c,.int .i64 d])).run P w=.ok (decide (a=c∧b=d)) w:=by
 have hs: ∀w,(Go.sizeOf E).run P w=.ok 1 w:=fun w=>bp hi w
 have he: ∀(u v:Int) w,(Op.equalIn (n+1) E (.int .i64 u) (.int .i64 v)).run P w=.ok (u==v) w:=fun u v w=>run_equalIn_int w n E .i64 .i64 u v hE
 have Oo: ∀w,(isAgg E).run P w=.ok false w:=fun w=>by simp[isAgg,aV hE]
 rw[Op.equalIn]
 generalize hq:Op.equalIn (n+1) E=q at he
 simp only[Sem.run_bind,aV hu,Result.andThen_ok,hs]
 by_cases h1:a=c
 ·by_cases h2:b=d
  ·subst h1 h2
   simp[List.range',part,he,Oo,hs,hq]
  ·subst h1
   simp[List.range',part,he,Oo,hs,h2,hq]
 ·simp[List.range',part,he,Oo,hs,h1,hq]
theorem FP {x y:Operand} {T U E:TypeId} {a b c d:Int} {z:Value} {fx:Nat} (hu:P.underlying T=some (.array 2 E)) (hE:P.underlying E=some (.int .i64)) (hi:eS P E z 1 fx) (hm:P.eqGuardType P.depth T=false)
  (hx:ev ρ x=.agg #[.int .i64 a,.int .i64 b]) (hy:ev ρ y=.agg #[.int .i64 c,.int .i64 d]):QT P base ⟨dst,.binOp .eql T x y U,t,p,af,g⟩ ρ O (.bool (decide (a=c∧b=d))):=fun w _=>by
 have h:=Dn hu hE hi 9998 a b c d w
 simp[execOp,hx,hy,run_eqGuard_agg w .eql T x y _ _ hm,run_eql_struct,h]
theorem v7 {x:Operand} {T E:TypeId} {b m fx:Nat} {z:Value} (hu:P.underlying T=some (.array m E)) (hi:eS P E z 1 fx) (hx:ev ρ x=.pointer (some ⟨b,0,none⟩)) (h0:1≤m):
  QT P base ⟨dst,.slice T x none none none,t,p,af,g⟩ ρ O (.slice (some ⟨b,0,none⟩) m m):=fun w hI=>by
 simp[execOp,Instr.sliceAt,Instr.sureAddr,hx,aV hu,bp hi,Instr.sliceBounds,pE]
end
theorem LB {n:Nat} (h:n<18446744073709551616):IntKind.u64.wrap (n:Int)=(n:Int):=by simp[IntKind.wrap,IntKind.bits,IntKind.signed];omega
end Go.Lx

namespace Go.Proofs.YtgdbfideeeegmaaGreatDoor
open Go.Lx Go.RowKit _root_.Go.Proofs.Tryz
theorem TU (w:World) [cG Tryz.prog w] (a:Int):
  bs Tryz.prog 240 [vI a] w fun v N=>v=.bool false∧N=[]:=by
 refine av func240 F ntmps240 F ?_
 refine ai (TO.qa F (ae (ai (ah F (ah F (ad (a8 (cS F F) (v':=.bool false) (by simp)) (TO.qa F (ae (az (ao ?_))))))))))
 refine aG (.bool false) Tryz.results240 F ?_
 exact⟨[],Sub.z,F,F⟩
theorem gtC (w:World) [cG Tryz.prog w] (a b:Int) (h:b<a):
  bs Tryz.prog 213 [vI a,vI b] w fun v N=>v=vI 1∧N=[]:=by
 refine av func213 F ntmps213 F ?_
 refine ai (TO.qa F (ae (ai (ah F (aj F (aI Iy (aE fun w1 hI=>(haveI:=dp hI;TU w1 a)) F ?_))))))
 rintro vr O' ⟨N,rfl,rfl,rfl⟩
 refine TO.qa F (ae (ai (ah F (aj F (aI Iy (aE fun w1 hI=>(haveI:=dp hI;TU w1 b)) F ?_)))))
 rintro vr O' ⟨N,rfl,rfl,rfl⟩
 refine TO.qa F (ae (ax (ai (ah F (ae (aL F (aq (ax (ai (ah F (ae ?_)))))))))))
 refine aL F (aq (ax (ai (ah F (ah F (ad (ar (bI F F) (decide_eq_false (by omega))) (ae (aL F (aq (ax (ai (ah F (ah F (ad (ar (fw F F) (decide_eq_true (by omega))) (ae ?_)))))))))))))))
 refine bg F ?_
 refine ai (TO.qa F (ae (az (ao ?_))))
 refine aG (vI 1) Tryz.results213 F ?_
 exact⟨[],Sub.z,F,F⟩
theorem TV (w:World) [cG Tryz.prog w] (a1 a2:Int) (ba:Option Addr) (ca:Nat) (ha:Sl w ba [vI a1,vI a2]) (b1 b2:Int) (bb:Option Addr) (cb:Nat) (hb:Sl w bb [vI b1,vI b2]) (h:b1<a1):
  bs Tryz.prog 165 [.slice ba 2 ca,.slice bb 2 cb] w fun v N=>v=vI 1∧N=[]:=by
 refine av func165 F ntmps165 F ?_
 refine ai (TO.qa F (ae (ax (ai (ah F (ad (bL bT F) (ah F (ae (aC ?_)))))))))
 refine ck (fun(k:Nat) ρ O=>O=[]∧k=0∧bZ [(0,(.slice ba 2 ca)),(1,(.slice bb 2 cb)),(9,(.slice ba 2 ca)),(10,vI (2:Int)),(11,vN k)] ρ) (fun k=>2-k) 0 ?_ ?_
 ·exact⟨F,F,(.of F)⟩
 rintro k ρ O ⟨rfl,hk,hH⟩
 obtain⟨eP,rfl⟩:=hH.elim
 clear hH
 refine ai (ad (ar (bI F F) (decide_eq_true (by omega))) (ae (ax ?_)))
 refine bg F ?_
 refine aq (ax (aC (ai (ah F (ad (cq (i:=k) bT aM F F (aB ha) (by omega) (by simp;omega)) (ad (bS dh F F (aB ha) (by rw[hk];rfl)) (TO.qa F (TO.qa F (ae (ax (ai (ah F (ah F (ad (bL bT F) (ad (ar (gW F F) (decide_eq_false (by omega))) (ae (aL F (aq (ai ?_)))))))))))))))))))
 refine ah F (ah F (ad (cq (i:=k) bT aM F F (aB hb) (by omega) (by simp;omega)) (ad (bS dh F F (aB hb) (by rw[hk];rfl)) (TO.qa F (ae (ai (ah F (ah F (aj F (aI PO (aE fun w1 hI=>(haveI:=dp hI;gtC w1 a1 b1 h)) F ?_))))))))))
 rintro vr O' ⟨N,rfl,rfl,rfl⟩
 refine TO.qa F (ae (ai (ah F (ad (ar (cS F F) (decide_eq_true (by decide))) (ae ?_)))))
 refine bg F ?_
 refine ai (ah F (TO.qa F (ae (az (ao ?_)))))
 refine aG (vI 1) Tryz.results165 F ?_
 exact⟨[],Sub.z,F,F⟩
theorem TW (w:World) [cG Tryz.prog w] (p r:Ob) (h:r.1<p.1):
  bs Tryz.prog 164 [(.agg #[vN p.1,vN p.2]),(.agg #[vN r.1,vN r.2])] w fun v N=>v=vI 1∧N=[]:=by
 refine av func164 F ntmps164 F ?_
 refine ai (aj F (cL (cs:=[vN p.1,vN p.2]) F F (fun z1=>?_)))
 refine aj F (cL (cs:=[vN r.1,vN r.2]) F F (fun z2=>?_))
 refine TO.qa F (ae (ax ?_))
 refine dO [(0,0),(1,0),(2,2),(3,2)] ?_
 refine am F (v7 iY aM F (by omega)) (am F (v7 iY aM F (by omega)) ?_)
 refine bq F F (aI PS (aE fun w1 hI=>(haveI:=dp hI;TV w1 (p.1:Int) (p.2:Int) _ 2 (hI.iX (mG 1 F)) (r.1:Int) (r.2:Int) _ 2 (hI.iX (mG 0 F)) (by omega))) F ?_)
 rintro vr O' ⟨N,rfl,rfl,rfl⟩
 refine bq F F (dG F F (cD F) ?_)
 refine bu ?_
 refine az (ao ?_)
 refine aG (vI 1) Tryz.results164 F ?_
 exact⟨[],Sub.z,F,F⟩
theorem TX (w:World) [cG Tryz.prog w] (b:Option Addr) (c:Nat) (o:List Ob) (hS:Sl w b (ei o)) (ha:o.Pairwise fun p q=>p.1<q.1) (hl:o.length≤12):
  bs Tryz.prog 232 [.slice b o.length c,vI 0,vN o.length,(.func (.func 164) #[] #[])] w fun v N=>v=.tuple #[]∧N=[]:=by
 refine av func232 F ntmps232 F ?_
 refine ai (ah F (ad (a8 (cM F F (by omega)) (v':=vN 1) F) (TO.qa F (ae (aC ?_)))))
 refine ck (fun(i:Nat) ρ O=>O=[]∧1≤i∧bZ [(0,(.slice b o.length c)),(1,vI 0),(2,vN o.length),(3,(.func (.func 164) #[] #[])),(8,vN i)] ρ) (fun i=>o.length-i) 1 ?_ ?_
 ·exact⟨F,Nat.le_refl _,(.of F)⟩
 rintro i ρ O ⟨rfl,hi,hH⟩
 obtain⟨eP,rfl⟩:=hH.elim
 clear hH
 refine ax (ai (ah F (ah F (ad (bI F F) (ae (aw F (fun hc=>?_) (fun hc=>?_)))))))
 ·have me:i<o.length:=by omega
  have VD:i<o.length:=by omega
  refine aq (ax (aC (ai (ah F (TO.qa F (ae (aC ?_)))))))
  refine ck (fun(j:Nat) ρ O=>O=[]∧j=i∧bZ [(0,(.slice b o.length c)),(1,vI 0),(2,vN o.length),(3,(.func (.func 164) #[] #[])),(8,vN i),(9,vN j)] ρ) (fun j=>j) i ?_ ?_
  ·exact⟨F,F,(.of F)⟩
  rintro j ρ O ⟨rfl,DF,hH⟩
  obtain⟨eP,rfl⟩:=hH.elim
  clear hH
  have VE:j<o.length:=by omega
  have VF:o[j-1].1<o[j].1:=(List.pairwise_iff_getElem.1 ha) (j-1) j (by omega) (by omega) (by omega)
  refine ax (ax ?_)
  refine dO [(0,0),(1,0),(2,0),(3,0),(4,0),(5,0),(6,0),(7,0),(8,0),(9,0),(10,0),(11,0),(12,0),(13,0),(14,2),(15,2),(16,2)] ?_
  refine am F (aF F) (am F (aF F) (am F (ar (fw F F) (decide_eq_true (by omega))) (am F (aF F) ?_)))
  refine aS F F F (aF F) ?_
  refine aS F F F (aF F) ?_
  refine aS F F F (aF F) ?_
  refine aS F F F (db (i:=j) il fG F F (aB hS) (by omega) (by rw[iE];omega)) ?_
  refine aS F F F (dT (vs:=[vN ((o[j]'(by omega)).1),vN ((o[j]'(by omega)).2)]) iY F fG F F (Nat.succ_pos _) (aB hS) (lS (show j<o.length by omega))) ?_
  refine aS F F F (aF F) ?_
  refine aS F F F (aF F) ?_
  refine aS F F F (a8 (eQ F F (by omega)) (v':=vN (j-1)) (congrArg (Value.int .i64) (by omega))) ?_
  refine aS F F F (db (i:=(j-1)) il fG F F (aB hS) (by omega) (by rw[iE];omega)) ?_
  refine aS F F F (dT (vs:=[vN ((o[j-1]'(by omega)).1),vN ((o[j-1]'(by omega)).2)]) iY F fG F F (Nat.succ_pos _) (aB hS) (lS (show j-1<o.length by omega))) ?_
  have HD:=(cF (base:=w) (O:=[]) fun w1 hI=>haveI:=dp hI;b_ (first:=[]) (args:=[(.agg #[vN (o[j].1),vN (o[j].2)]),(.agg #[vN (o[j-1].1),vN (o[j-1].2)])]) (fK:=[]) PT (TW w1 _ _ VF))
  refine qA F F F F (dQ HD F F ?_)
  clear HD
  rintro vr O' ⟨N,rfl,rfl,rfl⟩
  refine qA F F F F (dG F F (ar (bI F F) (decide_eq_false (by decide))) ?_)
  refine bq F F (dG F F (bt F F) ?_)
  refine bu ?_
  refine aL F ?_
  refine bn ?_
  refine aH (ah F (ad (cj (a:=i) (b:=1) F F (by omega)) (TO.qa F (ae ?_))))
  exact⟨i+1,by omega,F,by omega,(.of F)⟩
 have mR: ¬i<o.length:=by omega
 refine bn ?_
 refine ao ?_
 refine qb.zero Tryz.results232 ?_
 exact⟨[],Sub.z,F,F⟩
theorem TY (w:World) [cG Tryz.prog w] (b:Option Addr) (c:Nat) (o:List Ob) (hS:Sl w b (ei o)) (ha:o.Pairwise fun p q=>p.1<q.1) (hl:o.length≤12) (lim:Int):
  bs Tryz.prog 212 [.slice b o.length c,vI 0,vN o.length,vI lim,(.func (.func 164) #[] #[])] w fun v N=>v=.tuple #[]∧N=[]:=by
 refine av func212 F ntmps212 F ?_
 refine ai (TO.qa F (ae (ai (TO.qa F (ae (aC ?_))))))
 refine nC 1 (T.round ?_)
 refine aC (ai ?_)
 refine ah F (ah F (ad (a8 (eQ F F (by omega)) (v':=vN o.length) (congrArg (Value.int .i64) (by omega))) (TO.qa F (ae (ax (ai (ah F (ad (ar (zQ F F) (decide_eq_true (by omega))) (ae ?_)))))))))
 refine bg F ?_
 refine ai (ah F (ah F (ah F (ah F (aj F (aI PU (aE fun w1 hI=>(haveI:=dp hI;TX w1 b c o (hI.sl hS) ha hl)) F ?_))))))
 rintro vr O' ⟨N,rfl,rfl,rfl⟩
 refine ae (az (ao ?_))
 refine qb.zero Tryz.results212 ?_
 exact⟨[],Sub.z,F,F⟩
theorem Iz (w:World) [cG Tryz.prog w] (n:Nat) (hn:n<1000):bs Tryz.prog 159 [.int .u64 (n:Int)] w fun v N=>v=vI (Lib.bitLen n:Int)∧N=[]:=fun w1 M hI=>by
 have h:=Go.Proofs.Any.bits_Len (P:=Tryz.prog) (ρ:=Tryz.tJ) {Tryz.y5 with} (n:Int) w1 (by omega) (by omega)
 rw[Int.toNat_natCast]at h
 refine h.mono ?_
 rintro e w' ⟨rfl,rfl⟩
 exact⟨_,_,F,hI,F,F⟩
theorem PV (w:World) [cG Tryz.prog w] (b:Option Addr) (c:Nat) (o:List Ob) (hS:Sl w b (ei o)) (ha:o.Pairwise fun p q=>p.1<q.1) (hl:o.length≤12):
  bs Tryz.prog 163 [.slice b o.length c,(.func (.func 164) #[] #[])] w fun v N=>v=.tuple #[]∧N=[]:=by
 refine av func163 F ntmps163 F ?_
 refine ai (ah F (ad (bL il F) (TO.qa F (ae (aH (ah F (ah F (ah F (ad (ef dh MY F (LB (by omega))) (aj F (aI PW (aE fun w1 hI=>(haveI:=dp hI;Iz w1 o.length (by omega))) F ?_)))))))))))
 rintro vr O' ⟨N,rfl,rfl,rfl⟩
 refine ah F (aj F (aI PY (aE fun w1 hI=>(haveI:=dp hI;TY w1 b c o (hI.sl hS) ha hl (Lib.bitLen o.length:Int))) F ?_))
 rintro vr O' ⟨N,rfl,rfl,rfl⟩
 refine ae (ao ?_)
 refine qb.zero Tryz.results163 ?_
 exact⟨[],Sub.z,F,F⟩
theorem PZ (w:World) [cG Tryz.prog w] (b:Option Addr) (c:Nat) (o:List Ob) (hS:Sl w b (ei o)) (hl:o.length≤12) (x:Ob) (hx: ∀p∈o,p.1<x.1):
  bs Tryz.prog 211 [.slice b o.length c,(.agg #[vN x.1,vN x.2])] w fun v N=>v=vI (-1)∧N=[]:=by
 refine av func211 F ntmps211 F ?_
 refine ai (aj F (cL (cs:=[vN x.1,vN x.2]) F F (fun uz=>?_)))
 refine TO.qa F (ae (ax (ai (ah F (ad (bL il F) (ah F (ae (aC ?_))))))))
 refine ck (fun(i:Nat) ρ O=>O=[oI uz 173 [vN x.1,vN x.2]]∧i≤o.length∧bZ [(0,(.slice b o.length c)),(1,(.agg #[vN x.1,vN x.2])),(3,(.pointer (aD uz))),(7,vI (o.length:Int)),(8,vN i)] ρ) (fun i=>o.length-i) 0 ?_ ?_
 ·exact⟨F,Nat.zero_le _,(.of F)⟩
 rintro i ρ O ⟨rfl,hi,hH⟩
 obtain⟨eP,rfl⟩:=hH.elim
 clear hH
 refine ai (ad (bI F F) (ae (ax (aw F (fun hc=>?_) (fun hc=>?_)))))
 ·have iQ:i<o.length:=by omega
  have VD:i<o.length:=by omega
  have rB:=hx _ (List.getElem_mem VD)
  refine aq (ax (aC (ai (ah F (TO.qa F (ae (ax ?_)))))))
  refine dO [(0,0),(1,0),(2,0),(3,0),(4,0),(5,0)] ?_
  refine am F (cN 0 iY F fG F F F) (am F (aF F) (am F (aF F) (am F (db (i:=i) il fG F F (aB hS) VD (by rw[iE];omega)) (am F (dT (vs:=[vN (o[i].1),vN (o[i].2)]) iY F fG F F (Nat.succ_pos _) (aB hS) (lS VD)) (am F (a8 (FP iY dh aM (by kernel_rfl) F F) (v':=.bool false) (congrArg Value.bool (decide_eq_false (by omega)))) ?_)))))
  refine bu ?_
  refine aL F (aq (aH (ad (cj (a:=i) (b:=1) F F (by omega)) (ah F (ae ?_)))))
  exact⟨i+1,by omega,F,by omega,(.of F)⟩
 have Fa: ¬i<o.length:=by omega
 refine bn ?_
 refine ai (TO.qa F (ae (az (ao ?_))))
 refine aG (vI (-1)) Tryz.results211 F ?_
 exact⟨[],Sub.z,F,F⟩
theorem FQ (w:World) [cG Tryz.prog w] (b:Option Addr) (c:Nat) (o:List Ob) (hS:Sl w b (ei o)) (hl:o.length≤12) (x:Ob) (hx: ∀p∈o,p.1<x.1):
  bs Tryz.prog 161 [.slice b o.length c,(.agg #[vN x.1,vN x.2])] w fun v N=>v=.bool false∧N=[]:=by
 refine av func161 F ntmps161 F ?_
 refine ai (aj F (cL (cs:=[vN x.1,vN x.2]) F F (fun uz=>?_)))
 refine TO.qa F (ae (ai (ah F (ad (cN 0 iY F fG F F F) (aj F (aI P0 (aE fun w1 hI=>(haveI:=dp hI;PZ w1 b c o (hI.sl hS) hl x hx)) F ?_))))))
 rintro vr O' ⟨N,rfl,rfl,rfl⟩
 refine ad (a8 (gW F F) (v':=.bool false) F) (TO.qa F (ae (az (ao ?_))))
 refine aG (.bool false) Tryz.results161 F ?_
 exact⟨[],Sub.z,F,F⟩
theorem C6 (o:List Ob):((ei o).all dD)=true:=by
 rw[List.all_eq_true]
 intro v hv
 obtain⟨p,_,hv⟩:=List.mem_flatMap.1 hv
 simp only[List.mem_cons,List.not_mem_nil,or_false]at hv
 rcases hv with rfl|rfl<;>rfl
theorem FR (w:World) [cG Tryz.prog w] (c:Nat):
  bs Tryz.prog 162 [.slice none 0 c] w fun v N=> ∃b' c',v=.slice b' 0 c'∧N=[ak b' c' 173 2 []]:=by
 refine av func162 F ntmps162 F ?_
 refine ai (TO.qa F (ae (ax (ai (ah F (ad (Ak il F F) (ae ?_)))))))
 refine bg F ?_
 refine ax (T.dt 173 2 ?_)
 refine aH (TO.qa F (ae (az ?_)))
 refine aG nS Tryz.results162 F ?_
 exact⟨_,_,F,F⟩
theorem C7 (w:World) [cG Tryz.prog w] (a:Addr) (c:Nat) (o:List Ob) (h1:Sl w (some a) (ei o)) (hb:o.length≤12):
  bs Tryz.prog 162 [.slice (some a) o.length c] w fun v N=> ∃b' c',v=.slice b' o.length c'∧N=[ak b' c' 173 2 (ei o)]:=by
 refine av func162 F ntmps162 F ?_
 refine ai (TO.qa F (ae (ax (ai (ah F (ad (Ak il F F) (ae (aL F (aq (ai (aj F (bH (m:=0) (parts:=[]) (cs:=[]) il fG (by decide) (by simp[Instr.fill]) F (fun b1=>?_)))))))))))))
 refine ah F (aj F (bX 0 il il fG F F F F (by simp) (by decide) (Src.sl h1 (by rw[iE])) (C6 o) (by omega) (by decide) (by decide) (fun uz c2=>?_)))
 refine TO.qa F (ae (az ?_))
 refine aG (.slice uz (0+o.length) c2) Tryz.results162 F ?_
 exact⟨_,_,by rw[Nat.zero_add],F⟩
theorem IA (w:World) [cG Tryz.prog w] (b:Option Addr) (c:Nat) (o:List Ob) (h1:Sl w b (ei o)) (hb:o.length≤12):
  bs Tryz.prog 162 [.slice b o.length c] w fun v N=> ∃b' c',v=.slice b' o.length c'∧N=[ak b' c' 173 2 (ei o)]:=by
 cases b with
 |none=>
  have hx:o=[]:=by
   cases o with
   |nil=>rfl
   |cons x xs=>obtain⟨_,_,e⟩:=h1.addr (i:=0) (by simp[ei]);cases e
  subst hx
  exact FR w c
 |some a=>exact C7 w a c o h1 hb
end Go.Proofs.YtgdbfideeeegmaaGreatDoor

namespace Go.Proofs.YtgdbfideeeegmaaGreatDoor
open Go.Lx Go.RowKit _root_.Go.Proofs.Tryz
theorem o9 {ls:List Lf} {ks:List LK} {k:Nat} (hk:ks.length=ls.length) (h:k<ls.length) (j:Nat) {v:Value} (hv:(js (lf ls k) (lk ks k))[j]? =some v) {n:Nat} (hn:n=k*7+j):(cI ls ks)[n]? =some v:=by
 obtain⟨hj,rfl⟩:=List.getElem?_eq_some_iff.1 hv
 subst hn
 exact v_ hk h j hj
theorem TZ (w:World) [cG Tryz.prog w] (ob:Nat) (lb:Option Addr) (lc:Nat) (cv fv:Value) (ls:List Lf) (ks:List LK) (ho:jK w ob lb lc cv fv ls ks) (vs:Nat) (hG:gU ls vs) (r:OB) (hr:Sl w r.b (ei r.o)) (x:Ob) (m:Nat) (B5:eE ls m r.o) (hm:m≤x.1) (hk:x.1<ls.length) (hs:x.2<(lf ls x.1).d.next.length):
  bs Tryz.prog 113 [(du (aD ob) 0),.slice r.b r.o.length r.c,(.agg #[vN x.1,vN x.2])] w fun v N=> ∃pl r2,v=OB.val r2∧N=eR 173 pl∧r2.o=sd ls r.o x∧((pl=[]∧r2=r)∨pl=[r2]):=by
 refine av func113 F ntmps113 F ?_
 have hv:=hG.iZ hk
 have ie:=hG.len
 have TS:=B5.len
 refine ai (aj F (cL (cs:=[vN x.1,vN x.2]) F F (fun z1=>?_)))
 refine TO.qa F (ae (ax (ax ?_)))
 refine dO [(0,0),(1,0),(2,0),(3,0),(4,0),(5,0),(6,0),(7,0),(8,0),(9,0),(10,0),(11,0),(12,0),(13,0),(14,0),(15,0),(16,0),(17,2),(18,2)] ?_
 refine am F (aF F) (am F (aP F) (am F (bG gy F gj F F (aB ho.bx) (by first|omega|(simp;done)|(simp;omega)|(simp_all;done)|(simp_all;omega))) (am F (bS eF F F (aB ho.bx) F) (am F (ij (i:=0) iY aM F F (by decide)) (am F (aO 0 dh F F F F) (am F (db (i:=x.1) eF dZ F F (aB ho.rw) hk (by rw[cX ho.kl];omega)) (am F (bG gq F aX F F (aB ho.rw) (by rw[cX ho.kl];omega)) (am F (bG cy F ce F F (aB ho.rw) (by rw[cX ho.kl];show x.1*7+1<_;omega)) (am F (bS dF F F (aB ho.rw) (o9 ho.kl hk 4 F F)) (am F (ij (i:=1) iY aM F F (by decide)) (am F (aO 0 dh F F F F) (am F (cq (i:=x.2) dF dc F F (aB (ho.dk _ hk).aA) (by rw[hv.fin];exact hs) (by rw[List.length_map,hv.fin];exact hs)) (am F (bS oe F F (aB (ho.dk _ hk).aA) (l_ hv hs)) ?_)))))))))))))
 by_cases j8:dK (lf ls x.1).d x.2=true
 ·refine am F (ar (aF F) (j8)) ?_
  refine be F F F (be F F F ?_)
  refine yB (by decide) F F F F F ?_
  refine bq F F (dG F F (bt F F) ?_)
  refine bu ?_
  refine bg F ?_
  refine ai (ah F (TO.qa F (ae (az (ao ?_)))))
  refine aG (.slice r.b r.o.length r.c) Tryz.results113 F ?_
  have e9:sd ls r.o x=r.o:=if_pos j8
  exact⟨[],Sub.z,[],r,by first|rfl|(rw[e9];rfl),F,e9.symm,.inl ⟨F,F⟩⟩
 refine am F (ar (aF F) (Bool.eq_false_iff.2 j8)) ?_
 refine aS F F F (aF F) ?_
 refine aS F F F (cN 0 iY F fG F F F) ?_
 have ng:=fun(w1:World) (hI:Inv w [oI z1 173 [vN x.1,vN x.2]] w1)=>(haveI:=dp hI;FQ w1 r.b r.c r.o (hI.sl hr) (by omega) x (fun p hp=>Nat.lt_of_lt_of_le (B5.2 p hp).1 hm))
 refine qA F F F F (aI P1 (aE ng) F ?_)
 clear ng
 rintro vr O' ⟨N,rfl,rfl,rfl⟩
 refine bq F F (dG F F (aZ F F) ?_)
 refine bu ?_
 refine aL F (aq ?_)
 refine fg (fun ρ O=> ∃(ab:Option Addr) (ac zb:Nat),O=[ak ab ac 173 2 ((ei r.o)++[vN x.1,vN x.2]),ak (aD zb) 1 173 2 [vN x.1,vN x.2],oI z1 173 [vN x.1,vN x.2]]∧bZ [(0,(du (aD ob) 0)),(1,(.slice r.b r.o.length r.c)),(2,(.agg #[vN x.1,vN x.2])),(5,(.pointer (aD z1))),(6,nS),(7,(.slice ab (r.o.length+1) ac))] ρ) ?_ ?_
 ·refine oy [oI z1 173 [vN x.1,vN x.2]] 6 mixed F (by exact Sub.rf) (fun _ _ _ _ h=>h) ?_
  refine cA 0 F (by kernel_rfl) (aF F) ?_
  refine cA 2 F (by kernel_rfl) (cN 0 iY F fG F F F) ?_
  have oU:=fun(w1:World) (hI:Inv w [oI z1 173 [vN x.1,vN x.2]] w1)=>(haveI:=dp hI;IA w1 r.b r.c r.o (hI.sl hr) (by omega))
  refine aN [1,3] (by kernel_rfl) F ⟨⟨_,F,F,aI IB (aE oU) F ?_⟩,⟨_,F,F,bH (m:=1) (parts:=[(0,_)]) (cs:=[vN x.1,vN x.2]) il fG (by decide) (by kernel_rfl) F (fun zb=>⟨by exact Sub.d (.k .z),?_⟩)⟩,trivial⟩
  ·clear oU
   rintro vr O' ⟨N,rfl,nb,nc,rfl,rfl⟩
   refine⟨by exact Sub.d (.k .z),?_⟩
   refine aN [3] (by kernel_rfl) F ⟨⟨_,F,F,bH (m:=1) (parts:=[(0,_)]) (cs:=[vN x.1,vN x.2]) il fG (by decide) (by kernel_rfl) F (fun zb=>⟨by exact Sub.d (.d (.k .z)),?_⟩)⟩,trivial⟩
   refine aN [4] (by kernel_rfl) F ⟨⟨_,F,F,bX 1 il il fG F F F F (by rw[iE]) (by decide) (Src.row (j:=0) F (by simp)) (by simp[dD]) (by omega) (by decide) (by decide) (fun ab ac=>⟨by exact Sub.d (.d (.k .z)),?_⟩)⟩,trivial⟩
   refine cA 5 F (by kernel_rfl) (cD F) ?_
   exact cH (by kernel_rfl) ⟨ab,ac,zb,F,(.of F)⟩ (by exact Sub.dL [ak (aD zb) 1 173 2 [vN x.1,vN x.2]] _ (.k (.k .z)))
  have oU:=fun(w1:World) (hI:Inv w [ak (aD zb) 1 173 2 [vN x.1,vN x.2],oI z1 173 [vN x.1,vN x.2]] w1)=>(haveI:=dp hI;IA w1 r.b r.c r.o (hI.sl hr) (by omega))
  refine aN [1] (by kernel_rfl) F ⟨⟨_,F,F,aI IB (aE oU) F ?_⟩,trivial⟩
  clear oU
  rintro vr O' ⟨N,rfl,nb,nc,rfl,rfl⟩
  refine⟨by exact Sub.d (.d (.k .z)),?_⟩
  refine aN [4] (by kernel_rfl) F ⟨⟨_,F,F,bX 0 il il fG F F F F (by rw[iE]) (by decide) (Src.row (j:=1) F (by simp)) (by simp[dD]) (by omega) (by decide) (by decide) (fun ab ac=>⟨by exact Sub.d (.d (.k .z)),?_⟩)⟩,trivial⟩
  refine cA 5 F (by kernel_rfl) (cD F) ?_
  exact cH (by kernel_rfl) ⟨ab,ac,zb,F,(.of F)⟩ (by exact Sub.rf)
 rintro ρ O ⟨ab,ac,zb,rfl,hH⟩
 obtain⟨eP,rfl⟩:=hH.elim
 clear hH
 refine ai (ah F ?_)
 have Ht:=fun(w1:World) (hI:Inv w [ak ab ac 173 2 ((ei r.o)++[vN x.1,vN x.2]),ak (aD zb) 1 173 2 [vN x.1,vN x.2],oI z1 173 [vN x.1,vN x.2]] w1)=>(haveI:=dp hI;(show bs _ _ _ _ (fun v N=>v=Value.tuple #[]∧N=[])from by
   have h9:=PV w1 ab ac (r.o++[x]) (by rw[tK];exact hI.eV (mG 0 F)) (List.pairwise_append.2 ⟨B5.1,List.pairwise_singleton _ _,fun p hp q hq=>by rw[List.mem_singleton.1 hq];exact Nat.lt_of_lt_of_le (B5.2 p hp).1 hm⟩) (by rw[List.length_append];simp;omega)
   rw[List.length_append]at h9
   exact h9))
 refine aj F (aI P2 (aE Ht) F ?_)
 clear Ht
 rintro vr O' ⟨N,rfl,rfl,rfl⟩
 refine ae (ai (ah F (TO.qa F (ae (az (ao ?_))))))
 refine aG (.slice ab (r.o.length+1) ac) Tryz.results113 F ?_
 have e9:sd ls r.o x=r.o++[x]:=if_neg j8
 exact⟨[ak ab ac 173 2 ((ei r.o)++[vN x.1,vN x.2])],(by exact Sub.k .z),[⟨ab,ac,r.o++[x]⟩],⟨ab,ac,r.o++[x]⟩,by show _=Value.slice _ (r.o++[x]).length _;rw[List.length_append];rfl,by show[_]=[ak _ _ _ _ (ei (r.o++[x]))];rw[tK],e9.symm,.inr F⟩
end Go.Proofs.YtgdbfideeeegmaaGreatDoor

namespace Go.Proofs.YtgdbfideeeegmaaGreatDoor
open Go.Lx Go.RowKit _root_.Go.Proofs.Tryz
def o_ (base:World) (f:FuncId) (args:List Value) (zs:Nat) (bb:Option Addr) (bc kK:Nat) (bh:List Nat) (ls:List Lf) (r:OB) (E:List Cf):Prop:= ∀(cb:Option Addr) (cc:Nat) (l:List CR) (p:List OB),jO ls l p→kG p r→
 bw Tryz.prog base f args ([da zs (.cells (List.toArray [(.slice bb bh.length bc),(.slice cb l.length cc)]) 122 (0,0)),ak cb cc 169 3 (cz l),ak bb kK 3 1 (aQ bh)]++eR 173 p) (fun v O'=> ∃sU sV l' p',v=.tuple #[]∧O'=[da zs (.cells (List.toArray [(.slice bb bh.length bc),(.slice sU l'.length sV)]) 122 (0,0)),ak sU sV 169 3 (cz l'),ak bb kK 3 1 (aQ bh)]++eR 173 p'∧l'.map CR.cf=E.foldl add (l.map CR.cf)∧jO ls l' p'∧(∀x∈p,x∈p'))
theorem P3 (base:World) [cG Tryz.prog base] {ls:List Lf} {vs:Nat} (hG:gU ls vs) {K:Nat} (hK:p7 ls K) (wa:K<1099511627776) (ov:Value) (zs:Nat) (bb:Option Addr) (bc:Nat) (bh:List Nat) (B:List Lx.Item) (cb:Option Addr) (cc:Nat) (l:List CR) (p:List OB) (x:CR) (hS:jO ls l p) (hx:im ls x.cf) (J5:kG p x.r) {O:List Lx.Item} (hs:Sub ([da zs (.cells (List.toArray [(.slice bb bh.length bc),(.slice cb l.length cc)]) 122 (0,0)),ak cb cc 169 3 (cz l)]++B) O):
  bw Tryz.prog base 114 [ov,.pointer (aD zs),(.agg #[vI x.k,vI ((x.s:Nat):Int),(.slice x.r.b x.r.o.length x.r.c)])] (O++eR 173 p) (fun v O'=> ∃sU sV l',v=.tuple #[]∧O'=([da zs (.cells (List.toArray [(.slice bb bh.length bc),(.slice sU l'.length sV)]) 122 (0,0)),ak sU sV 169 3 (cz l')]++B)++eR 173 p∧l'.map CR.cf=[x.cf].foldl add (l.map CR.cf)∧jO ls l' p):=by
 have h:=Xa base hG ov zs (.slice bb bh.length bc) cb cc l p x hS.LC hS.IC hx J5 (Nat.lt_of_le_of_lt (hS.len hK) wa)
 refine((h.under (B:=B) (pe _ _ _ _ hs))).post ?_
 rintro v O' ⟨A',rfl,sU,sV,rfl,rfl⟩
 exact⟨_,pf _ _ _,sU,sV,xf l x,F,F,En l x,hS.add hx J5⟩
theorem P4 (base:World) [cG Tryz.prog base] (ob:Nat) (lb:Option Addr) (lc:Nat) (cv fv:Value) (ls:List Lf) (ks:List LK) (ho:jK base ob lb lc cv fv ls ks) (vs:Nat) (hG:gU ls vs) {K:Nat} (hK:p7 ls K) (wa:K<1099511627776) (zs:Nat) (bb:Option Addr) (bc kK:Nat) (bh:List Nat) (hb:n6 ls bh) (k:Nat) (hk:k<ls.length) (r:OB) (uv:eE ls ls.length r.o) (f:Nat) (hE: ∀j∈(lf ls k).fo,o_ base 109 [(du (aD ob) 0),(.pointer (aD zs)),vI ((j:Nat):Int),(.slice r.b r.o.length r.c)] zs bb bc kK bh ls r (ft ls f bh j r.o)) (cb:Option Addr) (cc:Nat) (l:List CR) (p:List OB) (hS:jO ls l p) (Ca:kG p r):
  bw Tryz.prog base 115 [(du (aD ob) 0),(.pointer (aD zs)),vI ((k:Nat):Int),(.slice r.b r.o.length r.c)] ([oI zs 122 [(.slice bb bh.length bc),(.slice cb l.length cc)],ak cb cc 169 3 (cz l),ak bb kK 3 1 (aQ bh)]++eR 173 p) (fun v O'=> ∃sU sV l' p',v=.tuple #[]∧O'=[oI zs 122 [(.slice bb bh.length bc),(.slice sU l'.length sV)],ak sU sV 169 3 (cz l'),ak bb kK 3 1 (aQ bh)]++eR 173 p'∧l'.map CR.cf=(fQ ls (f+1) bh k r.o).foldl add (l.map CR.cf)∧jO ls l' p'∧(∀x∈p,x∈p')):=by
 refine av func115 F ntmps115 F ?_
 have Nx:=hG.fol _ (jj hk)
 refine ax (ai (ah F (ad (aP F) (ad (bG gy F gj F F (aB ho.bx) (by first|omega|(simp;done)|(simp;omega)|(simp_all;done)|(simp_all;omega))) (ad (bS eF F F (aB ho.bx) F) (ah F (ad (db (i:=k) eF dZ F F (aB ho.rw) hk (by rw[cX ho.kl];omega)) (ad (bG gq F bP F F (aB ho.rw) (by rw[cX ho.kl];omega)) (ad (bS bT F F (aB ho.rw) (o9 ho.kl hk 5 F F)) (ad (bL bT F) (ah F (ae (aC ?_)))))))))))))
 let dS:Lx.Item:=ak bb kK 3 1 (aQ bh)
 refine cE (fun(i:Nat) ρ O=> ∃(Ny:Option Addr) (Nz:Nat) (l2:List CR) (p2:List OB),O=([oI zs 122 [(.slice bb bh.length bc),(.slice Ny l2.length Nz)],ak Ny Nz 169 3 (cz l2),dS]++(eR 173 p2))∧i≤(lf ls k).fo.length∧l2.map CR.cf=(((lf ls k).fo.take i).flatMap fun j=>ft ls f bh j r.o).foldl add (l.map CR.cf)∧jO ls l2 p2∧(∀x∈p,x∈p2)∧bZ [(0,(du (aD ob) 0)),(1,(.pointer (aD zs))),(2,vI ((k:Nat):Int)),(3,(.slice r.b r.o.length r.c)),(17,(.slice (lk ks k).b ((lf ls k).fo.length) ((lk ks k).c))),(18,vI ((lf ls k).fo.length:Int)),(19,vI ((i:Nat):Int))] ρ) (fun i=>(lf ls k).fo.length-i) 0 ?_ ?_
 ·exact⟨cb,cc,l,p,F,Nat.zero_le _,F,hS,fun x hx=>hx,(.of F)⟩
 rintro i ρ O ⟨Ny,Nz,l2,p2,rfl,hi,uu,RV,Ay,hH⟩
 obtain⟨eP,rfl⟩:=hH.elim
 clear hH
 refine ai (ad (bI F F) (ae (ax (aw F (fun hc=>?_) (fun hc=>?_)))))
 ·have x4:i<(lf ls k).fo.length:=by omega
  refine aq (ax (aC (ai (ad (cq (i:=i) bT aM F F (aB (ho.fo _ hk)) x4 (by rw[List.length_map];exact x4)) (ad (bS dh F F (aB (ho.fo _ hk)) (eK x4)) (TO.qa F (ae (aH (ah F (ah F (ah F (ah F ?_))))))))))))
  have rP:=hE (lf ls k).fo[i] (List.getElem_mem x4) Ny Nz l2 p2 RV (Ca.mono Ay)
  refine aj F (aI ID rP F ?_)
  clear rP
  rintro vr O' ⟨LD,LF,l3,p3,rfl,rfl,LG,Gt,Az⟩
  refine ae (aH (ad (cj (a:=i) (b:=1) F F (by omega)) (ah F (ae ?_))))
  exact⟨i+1,by omega,_,a_ (List.Sublist.refl _),LD,LF,l3,p3,F,by omega,by rw[List.take_succ_eq_append_getElem x4,List.flatMap_append,List.foldl_append,←uu,LG];simp,Gt,fun x hx=>Az x (Ay x hx),(.of F)⟩
 have T1: ¬i<(lf ls k).fo.length:=by omega
 refine bn ?_
 refine ai (ah F (ad (aP F) (ad (bG gy F gj F F (aB ho.bx) (by first|omega|(simp;done)|(simp;omega)|(simp_all;done)|(simp_all;omega))) (ad (bS eF F F (aB ho.bx) F) (ah F (ad (db (i:=k) eF dZ F F (aB ho.rw) hk (by rw[cX ho.kl];omega)) (ad (bG gq F dc F F (aB ho.rw) (by rw[cX ho.kl];omega)) (ad (bS oe F F (aB ho.rw) (o9 ho.kl hk 6 F F)) (ae (T.cond F (fun hc=>?_) (fun hc=>?_)))))))))))
 ·have Gp:(lf ls k).la=true:=hc
  refine aH (ah F (ah F (ah F (ad (bE (cs:=[vI (-1),vI 0,(.slice r.b r.o.length r.c)]) y6 gV (by kernel_rfl)) ?_))))
  have T2:=P3 base hG hK wa (du (aD ob) 0) zs bb bc bh [dS] Ny Nz l2 p2 ⟨-1,0,r⟩ RV (.inl ⟨F,F,uv⟩) (Ca.mono Ay) (O:=[oI zs 122 [(.slice bb bh.length bc),(.slice Ny l2.length Nz)],ak Ny Nz 169 3 (cz l2),dS]) (by exact Sub.rf)
  refine aj F (aI C8 T2 F ?_)
  clear T2
  rintro vr O' ⟨Bk,Bl,l4,rfl,rfl,P5,P6⟩
  refine ae (ao ?_)
  refine qb.zero Tryz.results115 ?_
  have sO:i=(lf ls k).fo.length:=by omega
  subst sO
  rw[List.take_length]at uu
  have e9:fQ ls (f+1) bh k r.o=((lf ls k).fo.flatMap fun j=>ft ls f bh j r.o)++[⟨-1,0,r.o⟩]:=by unfold fQ;rw[if_pos Gp]
  exact⟨_,a_ (List.Sublist.refl _),Bk,Bl,l4,p2,F,F,by rw[e9,List.foldl_append,←uu,P5];rfl,P6,Ay⟩
 have Gp: ¬(lf ls k).la=true:=by rw[hc];simp
 refine aq (ao ?_)
 refine qb.zero Tryz.results115 ?_
 have sO:i=(lf ls k).fo.length:=by omega
 subst sO
 rw[List.take_length]at uu
 have e9:fQ ls (f+1) bh k r.o=((lf ls k).fo.flatMap fun j=>ft ls f bh j r.o)++[]:=by unfold fQ;rw[if_neg Gp]
 exact⟨_,a_ (List.Sublist.refl _),Ny,Nz,l2,p2,F,F,by rw[e9,List.append_nil,uu],RV,Ay⟩
def Eo (l:Lf) (q:LK):List Value:=[v8 l.op,vI l.d.vars,vI ((l.d.start.toNat:Nat):Int),.slice q.k.nb l.d.next.length q.k.nc,.slice q.k.fb l.d.aA.length q.k.fc,.slice q.b l.fo.length q.c,.bool l.la]
theorem ni {ls:List Lf} {ks:List LK} {k:Nat} (hk:ks.length=ls.length) (h:k<ls.length) (h0:0≤(lf ls k).d.start): ∀j (hj:j<(Eo (lf ls k) (lk ks k)).length),(cI ls ks)[k*7+j]? =some (Eo (lf ls k) (lk ks k))[j]:=fun j hj=>by
 have e:Eo (lf ls k) (lk ks k)=js (lf ls k) (lk ks k):=by unfold Eo;rw[Int.toNat_of_nonneg h0];rfl
 simp only[e]at hj⊢
 exact v_ hk h j hj
theorem j5 {l:List Nat} {i:Nat} (h:i<l.length):(aQ l)[i]? =some (vI ((l.getD i 0:Nat):Int)):=by
 rw[eK h,List.getD_eq_getElem?_getD,List.getElem?_eq_getElem h];rfl
theorem P7 (base:World) [cG Tryz.prog base] (ob:Nat) (lb:Option Addr) (lc:Nat) (cv fv:Value) (ls:List Lf) (ks:List LK) (ho:jK base ob lb lc cv fv ls ks) (vs:Nat) (hG:gU ls vs) {K:Nat} (hK:p7 ls K) (wa:K<1099511627776) (zs:Nat) (bb:Option Addr) (bc kK:Nat) (bh:List Nat) (hb:n6 ls bh) (k:Nat) (hk:k<ls.length) (IE:(lf ls k).op=9) (r:OB) (uv:eE ls k r.o) (f:Nat) (hL: ∀r2:OB,eE ls (k+1) r2.o→o_ base 115 [(du (aD ob) 0),(.pointer (aD zs)),vI ((k:Nat):Int),(.slice r2.b r2.o.length r2.c)] zs bb bc kK bh ls r2 (fQ ls f bh k r2.o)) (cb:Option Addr) (cc:Nat) (l:List CR) (p:List OB) (hS:jO ls l p) (Ca:kG p r):
  bw Tryz.prog base 109 [(du (aD ob) 0),(.pointer (aD zs)),vI ((k:Nat):Int),(.slice r.b r.o.length r.c)] ([oI zs 122 [(.slice bb bh.length bc),(.slice cb l.length cc)],ak cb cc 169 3 (cz l),ak bb kK 3 1 (aQ bh)]++eR 173 p) (fun v O'=> ∃sU sV l' p',v=.tuple #[]∧O'=[oI zs 122 [(.slice bb bh.length bc),(.slice sU l'.length sV)],ak sU sV 169 3 (cz l'),ak bb kK 3 1 (aQ bh)]++eR 173 p'∧l'.map CR.cf=(ft ls (f+1) bh k r.o).foldl add (l.map CR.cf)∧jO ls l' p'∧(∀x∈p,x∈p')):=by
 refine av func109 F ntmps109 F ?_
 have hv:=hG.iZ hk
 have sB:=dH hv.toVal
 have Kd:k<bh.length:=by rw[hb.len];exact hk
 have NA:=hb.lt k hk
 have LH:eE ls (k+1) r.o:=uv.mono (Nat.le_succ k)
 refine ai (ah F (ad (aP F) (ad (bG gy F gj F F (aB ho.bx) (by first|omega|(simp;done)|(simp;omega)|(simp_all;done)|(simp_all;omega))) (ad (bS eF F F (aB ho.bx) F) (ah F (ad (db (i:=k) eF dZ F F (aB ho.rw) hk (by rw[cX ho.kl];omega)) (ad (dT (vs:=[v8 ((lf ls k).op),vI (lf ls k).d.vars,vI (((lf ls k).d.start.toNat:Nat):Int),(.slice (lk ks k).k.nb ((lf ls k).d.next.length) ((lk ks k).k.nc)),(.slice (lk ks k).k.fb ((lf ls k).d.aA.length) ((lk ks k).k.fc)),(.slice (lk ks k).b ((lf ls k).fo.length) ((lk ks k).c)),.bool (lf ls k).la]) gq F dZ F F (Nat.succ_pos _) (aB ho.rw) (ni ho.kl hk hv.s0)) (aj F (aR dZ F (fun z1=>?_))))))))))
 refine aj F (bj (vs:=[v8 ((lf ls k).op),vI (lf ls k).d.vars,vI (((lf ls k).d.start.toNat:Nat):Int),(.slice (lk ks k).k.nb ((lf ls k).d.next.length) ((lk ks k).k.nc)),(.slice (lk ks k).k.fb ((lf ls k).d.aA.length) ((lk ks k).k.fc)),(.slice (lk ks k).b ((lf ls k).fo.length) ((lk ks k).c)),.bool (lf ls k).la]) 0 dZ F F F F ?_)
 refine ae (aC (ai (ad (aJ gq F cP F F) (ad (aO 0 eC F F F F) (ad (ar (bo F F) (decide_eq_true (by omega))) (TO.qa F (ae ?_)))))))
 refine bg F ?_
 refine aH (ah F (ah F (ah F (ah F (ah F (ah F (ad (aJ gq F aX F F) (ad (aJ cy F aM F F) (ad (aO 0 dh F F F F) (ad (rC (cs:=[vI ((k:Nat):Int),vI (((lf ls k).d.start.toNat:Nat):Int)]) iY aM fG (by kernel_rfl)) ?_))))))))))
 have na:=fun(w1:World) (hI:Inv base ([oI z1 118 [v8 ((lf ls k).op),vI (lf ls k).d.vars,vI (((lf ls k).d.start.toNat:Nat):Int),(.slice (lk ks k).k.nb ((lf ls k).d.next.length) ((lk ks k).k.nc)),(.slice (lk ks k).k.fb ((lf ls k).d.aA.length) ((lk ks k).k.fc)),(.slice (lk ks k).b ((lf ls k).fo.length) ((lk ks k).c)),.bool (lf ls k).la],oI zs 122 [(.slice bb bh.length bc),(.slice cb l.length cc)],ak cb cc 169 3 (cz l),ak bb kK 3 1 (aQ bh)]++(eR 173 p)) w1)=>(haveI:=dp hI;TZ w1 ob lb lc cv fv ls ks (hI.out ho) vs hG r (kG.sl hI (fun it di=>List.mem_append_right _ di) Ca) (k,(lf ls k).d.start.toNat) k uv (Nat.le_refl _) hk sB)
 refine aj F (aI IF (aE na) F ?_)
 clear na
 rintro vr O' ⟨N,rfl,pl,r2,rfl,rfl,MP,Cb⟩
 have hg2:eE ls (k+1) r2.o:=by rw[MP];exact sW (x:=(k,_)) uv (Nat.le_refl _) sB
 have Xb:kG (pl++p) r2:=by
  rcases Cb with⟨rfl,rfl⟩|rfl
  ·exact Ca.mono fun x hx=>by simpa using hx
  ·exact .inl (by simp)
 refine bM (O':=([oI z1 118 [v8 ((lf ls k).op),vI (lf ls k).d.vars,vI (((lf ls k).d.start.toNat:Nat):Int),(.slice (lk ks k).k.nb ((lf ls k).d.next.length) ((lk ks k).k.nc)),(.slice (lk ks k).k.fb ((lf ls k).d.aA.length) ((lk ks k).k.fc)),(.slice (lk ks k).b ((lf ls k).fo.length) ((lk ks k).c)),.bool (lf ls k).la],oI zs 122 [(.slice bb bh.length bc),(.slice cb l.length cc)],ak cb cc 169 3 (cz l),ak bb kK 3 1 (aQ bh)]++((eR 173 pl)++(eR 173 p)))) (by exact cQ [] _ (eR 173 pl) (eR 173 p)) ?_
 have T3:=bw.sub (O':=[oI zs 122 [(.slice bb bh.length bc),(.slice cb l.length cc)],ak cb cc 169 3 (cz l),ak bb kK 3 1 (aQ bh)]++eR 173 (pl++p)) (O:=([oI z1 118 [v8 ((lf ls k).op),vI (lf ls k).d.vars,vI (((lf ls k).d.start.toNat:Nat):Int),(.slice (lk ks k).k.nb ((lf ls k).d.next.length) ((lk ks k).k.nc)),(.slice (lk ks k).k.fb ((lf ls k).d.aA.length) ((lk ks k).k.fc)),(.slice (lk ks k).b ((lf ls k).fo.length) ((lk ks k).c)),.bool (lf ls k).la],oI zs 122 [(.slice bb bh.length bc),(.slice cb l.length cc)],ak cb cc 169 3 (cz l),ak bb kK 3 1 (aQ bh)]++((eR 173 pl)++(eR 173 p)))) (by rw[Bm];exact(by exact Sub.d (.k (.k (.k .rf))))) (hL r2 hg2 cb cc l (pl++p) (hS.mono fun x hx=>List.mem_append_right _ hx) Xb)
 refine aj F (aI y7 T3 F ?_)
 clear T3
 rintro vr O' ⟨LD,LF,l3,p3,rfl,rfl,LG,Gt,Az⟩
 refine ae (ao ?_)
 refine qb.zero Tryz.results109 ?_
 exact⟨_,a_ (List.Sublist.refl _),LD,LF,l3,p3,F,F,by rw[LG,MP];unfold ft;rw[if_pos IE],Gt,fun x hx=>Az x (List.mem_append_right _ hx)⟩
theorem P8 (base:World) [cG Tryz.prog base] (ob:Nat) (lb:Option Addr) (lc:Nat) (cv fv:Value) (ls:List Lf) (ks:List LK) (ho:jK base ob lb lc cv fv ls ks) (vs:Nat) (hG:gU ls vs) {K:Nat} (hK:p7 ls K) (wa:K<1099511627776) (zs:Nat) (bb:Option Addr) (bc kK:Nat) (bh:List Nat) (hb:n6 ls bh) (k:Nat) (hk:k<ls.length) (IE:(lf ls k).op=10) (r:OB) (uv:eE ls k r.o) (f:Nat) (hL: ∀r2:OB,eE ls (k+1) r2.o→o_ base 115 [(du (aD ob) 0),(.pointer (aD zs)),vI ((k:Nat):Int),(.slice r2.b r2.o.length r2.c)] zs bb bc kK bh ls r2 (fQ ls f bh k r2.o)) (cb:Option Addr) (cc:Nat) (l:List CR) (p:List OB) (hS:jO ls l p) (Ca:kG p r):
  bw Tryz.prog base 109 [(du (aD ob) 0),(.pointer (aD zs)),vI ((k:Nat):Int),(.slice r.b r.o.length r.c)] ([oI zs 122 [(.slice bb bh.length bc),(.slice cb l.length cc)],ak cb cc 169 3 (cz l),ak bb kK 3 1 (aQ bh)]++eR 173 p) (fun v O'=> ∃sU sV l' p',v=.tuple #[]∧O'=[oI zs 122 [(.slice bb bh.length bc),(.slice sU l'.length sV)],ak sU sV 169 3 (cz l'),ak bb kK 3 1 (aQ bh)]++eR 173 p'∧l'.map CR.cf=(ft ls (f+1) bh k r.o).foldl add (l.map CR.cf)∧jO ls l' p'∧(∀x∈p,x∈p')):=by
 refine av func109 F ntmps109 F ?_
 have hv:=hG.iZ hk
 have sB:=dH hv.toVal
 have Kd:k<bh.length:=by rw[hb.len];exact hk
 have NA:=hb.lt k hk
 have LH:eE ls (k+1) r.o:=uv.mono (Nat.le_succ k)
 refine ai (ah F (ad (aP F) (ad (bG gy F gj F F (aB ho.bx) (by first|omega|(simp;done)|(simp;omega)|(simp_all;done)|(simp_all;omega))) (ad (bS eF F F (aB ho.bx) F) (ah F (ad (db (i:=k) eF dZ F F (aB ho.rw) hk (by rw[cX ho.kl];omega)) (ad (dT (vs:=[v8 ((lf ls k).op),vI (lf ls k).d.vars,vI (((lf ls k).d.start.toNat:Nat):Int),(.slice (lk ks k).k.nb ((lf ls k).d.next.length) ((lk ks k).k.nc)),(.slice (lk ks k).k.fb ((lf ls k).d.aA.length) ((lk ks k).k.fc)),(.slice (lk ks k).b ((lf ls k).fo.length) ((lk ks k).c)),.bool (lf ls k).la]) gq F dZ F F (Nat.succ_pos _) (aB ho.rw) (ni ho.kl hk hv.s0)) (aj F (aR dZ F (fun z1=>?_))))))))))
 refine aj F (bj (vs:=[v8 ((lf ls k).op),vI (lf ls k).d.vars,vI (((lf ls k).d.start.toNat:Nat):Int),(.slice (lk ks k).k.nb ((lf ls k).d.next.length) ((lk ks k).k.nc)),(.slice (lk ks k).k.fb ((lf ls k).d.aA.length) ((lk ks k).k.fc)),(.slice (lk ks k).b ((lf ls k).fo.length) ((lk ks k).c)),.bool (lf ls k).la]) 0 dZ F F F F ?_)
 refine ae (aC (ai (ad (aJ gq F cP F F) (ad (aO 0 eC F F F F) (ad (ar (bo F F) (decide_eq_false (by omega))) (TO.qa F (ae (aL F (ax ?_)))))))))
 refine dO [(0,0),(1,0),(2,0),(3,0),(4,0),(5,0),(6,0),(7,0),(8,0),(9,0),(10,0),(11,0),(12,0),(13,0),(14,0),(15,0),(16,0),(17,0)] ?_
 refine am F (aJ gq F cP F F) (am F (aO 0 eC F F F F) (am F (ar (bo F F) (decide_eq_true (by omega))) (am F (aF F) ?_)))
 refine aS F F F (aJ gq F aX F F) ?_
 refine aS F F F (aJ cy F ce F F) ?_
 refine aS F F F (aO 0 dF F F F F) ?_
 refine aS F F F (aF F) ?_
 refine aS F F F (aP F) ?_
 refine aS F F F (aJ iC F bP F F) ?_
 refine aS F F F (aO 1 bT F F F F) ?_
 refine aS F F F (aF F) ?_
 refine aS F F F (cq (i:=k) bT aM F F (cw (mG 3 F)) Kd (by rw[List.length_map];exact Kd)) ?_
 refine aS F F F (bS dh F F (cw (mG 3 F)) (j5 Kd)) ?_
 refine aS F F F (cq (i:=(bh.getD k 0)) dF dc F F (aB (ho.dk _ hk).aA) (by rw[hv.fin];exact NA) (by rw[List.length_map,hv.fin];exact NA)) ?_
 refine aS F F F (bS oe F F (aB (ho.dk _ hk).aA) (l_ hv NA)) ?_
 refine am F (bt F F) (am F (cD F) ?_)
 refine bu ?_
 refine T.cond F (fun hc=>?_) (fun hc=>?_)
 ·have y8:dK (lf ls k).d (bh.getD k 0)=true:=hc
  refine aH (ah F (ah F (ah F (ah F ?_))))
  have zR:=bw.sub (O':=[oI zs 122 [(.slice bb bh.length bc),(.slice cb l.length cc)],ak cb cc 169 3 (cz l),ak bb kK 3 1 (aQ bh)]++eR 173 p) (O:=([oI z1 118 [v8 ((lf ls k).op),vI (lf ls k).d.vars,vI (((lf ls k).d.start.toNat:Nat):Int),(.slice (lk ks k).k.nb ((lf ls k).d.next.length) ((lk ks k).k.nc)),(.slice (lk ks k).k.fb ((lf ls k).d.aA.length) ((lk ks k).k.fc)),(.slice (lk ks k).b ((lf ls k).fo.length) ((lk ks k).c)),.bool (lf ls k).la],oI zs 122 [(.slice bb bh.length bc),(.slice cb l.length cc)],ak cb cc 169 3 (cz l),ak bb kK 3 1 (aQ bh)]++(eR 173 p))) (by exact(by exact Sub.d (.k (.k (.k .rf))))) (hL r LH cb cc l p hS Ca)
  refine aj F (aI y7 zR F ?_)
  clear zR
  rintro vr O' ⟨LD,LF,l3,p3,rfl,rfl,LG,Gt,Az⟩
  refine ae (ao ?_)
  refine qb.zero Tryz.results109 ?_
  exact⟨_,a_ (List.Sublist.refl _),LD,LF,l3,p3,F,F,by rw[LG];unfold ft;rw[if_neg (by omega),if_pos IE,if_pos y8],Gt,Az⟩
 have y8: ¬dK (lf ls k).d (bh.getD k 0)=true:=by rw[hc];simp
 refine ai (ad (aJ gq F cP F F) (ad (aO 0 eC F F F F) (ad (ar (bo F F) (decide_eq_false (by omega))) (TO.qa F (ae (aL F (aq (ao ?_))))))))
 refine qb.zero Tryz.results109 ?_
 exact⟨[oI zs 122 [(.slice bb bh.length bc),(.slice cb l.length cc)],ak cb cc 169 3 (cz l),ak bb kK 3 1 (aQ bh)]++eR 173 p,(by exact Sub.d (.k (.k (.k .rf)))),cb,cc,l,p,F,F,by unfold ft;rw[if_neg (by omega),if_pos IE,if_neg y8];rfl,hS,fun x hx=>hx⟩
theorem LI (base:World) [cG Tryz.prog base] (ob:Nat) (lb:Option Addr) (lc:Nat) (cv fv:Value) (ls:List Lf) (ks:List LK) (ho:jK base ob lb lc cv fv ls ks) (vs:Nat) (hG:gU ls vs) {K:Nat} (hK:p7 ls K) (wa:K<1099511627776) (zs:Nat) (bb:Option Addr) (bc kK:Nat) (bh:List Nat) (hb:n6 ls bh) (k:Nat) (hk:k<ls.length) (IE:(lf ls k).op=0) (r:OB) (uv:eE ls k r.o) (f:Nat) (hL: ∀r2:OB,eE ls (k+1) r2.o→o_ base 115 [(du (aD ob) 0),(.pointer (aD zs)),vI ((k:Nat):Int),(.slice r2.b r2.o.length r2.c)] zs bb bc kK bh ls r2 (fQ ls f bh k r2.o)) (cb:Option Addr) (cc:Nat) (l:List CR) (p:List OB) (hS:jO ls l p) (Ca:kG p r):
  bw Tryz.prog base 109 [(du (aD ob) 0),(.pointer (aD zs)),vI ((k:Nat):Int),(.slice r.b r.o.length r.c)] ([oI zs 122 [(.slice bb bh.length bc),(.slice cb l.length cc)],ak cb cc 169 3 (cz l),ak bb kK 3 1 (aQ bh)]++eR 173 p) (fun v O'=> ∃sU sV l' p',v=.tuple #[]∧O'=[oI zs 122 [(.slice bb bh.length bc),(.slice sU l'.length sV)],ak sU sV 169 3 (cz l'),ak bb kK 3 1 (aQ bh)]++eR 173 p'∧l'.map CR.cf=(ft ls (f+1) bh k r.o).foldl add (l.map CR.cf)∧jO ls l' p'∧(∀x∈p,x∈p')):=by
 refine av func109 F ntmps109 F ?_
 have hv:=hG.iZ hk
 have sB:=dH hv.toVal
 have Kd:k<bh.length:=by rw[hb.len];exact hk
 have NA:=hb.lt k hk
 have LH:eE ls (k+1) r.o:=uv.mono (Nat.le_succ k)
 refine ai (ah F (ad (aP F) (ad (bG gy F gj F F (aB ho.bx) (by first|omega|(simp;done)|(simp;omega)|(simp_all;done)|(simp_all;omega))) (ad (bS eF F F (aB ho.bx) F) (ah F (ad (db (i:=k) eF dZ F F (aB ho.rw) hk (by rw[cX ho.kl];omega)) (ad (dT (vs:=[v8 ((lf ls k).op),vI (lf ls k).d.vars,vI (((lf ls k).d.start.toNat:Nat):Int),(.slice (lk ks k).k.nb ((lf ls k).d.next.length) ((lk ks k).k.nc)),(.slice (lk ks k).k.fb ((lf ls k).d.aA.length) ((lk ks k).k.fc)),(.slice (lk ks k).b ((lf ls k).fo.length) ((lk ks k).c)),.bool (lf ls k).la]) gq F dZ F F (Nat.succ_pos _) (aB ho.rw) (ni ho.kl hk hv.s0)) (aj F (aR dZ F (fun z1=>?_))))))))))
 refine aj F (bj (vs:=[v8 ((lf ls k).op),vI (lf ls k).d.vars,vI (((lf ls k).d.start.toNat:Nat):Int),(.slice (lk ks k).k.nb ((lf ls k).d.next.length) ((lk ks k).k.nc)),(.slice (lk ks k).k.fb ((lf ls k).d.aA.length) ((lk ks k).k.fc)),(.slice (lk ks k).b ((lf ls k).fo.length) ((lk ks k).c)),.bool (lf ls k).la]) 0 dZ F F F F ?_)
 refine ae (aC (ai (ad (aJ gq F cP F F) (ad (aO 0 eC F F F F) (ad (ar (bo F F) (decide_eq_false (by omega))) (TO.qa F (ae (aL F (ax ?_)))))))))
 refine dO [(0,0),(1,0),(2,0),(3,0),(4,0),(5,0),(6,0),(7,0),(8,0),(9,0),(10,0),(11,0),(12,0),(13,0),(14,0),(15,0),(16,0),(17,0)] ?_
 refine am F (aJ gq F cP F F) (am F (aO 0 eC F F F F) (am F (ar (bo F F) (decide_eq_false (by omega))) (am F (aF F) (be F F F (be F F F (be F F F (be F F F (be F F F (be F F F (be F F F ?_))))))))))
 refine be F F F (be F F F (be F F F (be F F F (be F F F (am F (aZ F F) (am F (cD F) ?_))))))
 refine bu ?_
 refine aL F (ai (ad (aJ gq F cP F F) (ad (aO 0 eC F F F F) (ad (ar (bo F F) (decide_eq_true (by omega))) (TO.qa F (ae ?_))))))
 refine bg F ?_
 refine ai (ah F (ah F (ah F (ad (aJ gq F aX F F) (ad (aJ cy F aM F F) (ad (aO 0 dh F F F F) (ah F (ad (bE (cs:=[vI ((k:Nat):Int),vI (((lf ls k).d.start.toNat:Nat):Int),(.slice r.b r.o.length r.c)]) y6 gV (by kernel_rfl)) ?_))))))))
 have T4:=P3 base hG hK wa (du (aD ob) 0) zs bb bc bh [oI z1 118 [v8 ((lf ls k).op),vI (lf ls k).d.vars,vI (((lf ls k).d.start.toNat:Nat):Int),(.slice (lk ks k).k.nb ((lf ls k).d.next.length) ((lk ks k).k.nc)),(.slice (lk ks k).k.fb ((lf ls k).d.aA.length) ((lk ks k).k.fc)),(.slice (lk ks k).b ((lf ls k).fo.length) ((lk ks k).c)),.bool (lf ls k).la],ak bb kK 3 1 (aQ bh)] cb cc l p ⟨(k:Int),(lf ls k).d.start.toNat,r⟩ hS (.inr ⟨k,F,hk,sB,uv⟩) Ca (O:=[oI z1 118 [v8 ((lf ls k).op),vI (lf ls k).d.vars,vI (((lf ls k).d.start.toNat:Nat):Int),(.slice (lk ks k).k.nb ((lf ls k).d.next.length) ((lk ks k).k.nc)),(.slice (lk ks k).k.fb ((lf ls k).d.aA.length) ((lk ks k).k.fc)),(.slice (lk ks k).b ((lf ls k).fo.length) ((lk ks k).c)),.bool (lf ls k).la],oI zs 122 [(.slice bb bh.length bc),(.slice cb l.length cc)],ak cb cc 169 3 (cz l),ak bb kK 3 1 (aQ bh)]) (by exact Sub.dL [oI z1 118 [v8 ((lf ls k).op),vI (lf ls k).d.vars,vI (((lf ls k).d.start.toNat:Nat):Int),(.slice (lk ks k).k.nb ((lf ls k).d.next.length) ((lk ks k).k.nc)),(.slice (lk ks k).k.fb ((lf ls k).d.aA.length) ((lk ks k).k.fc)),(.slice (lk ks k).b ((lf ls k).fo.length) ((lk ks k).c)),.bool (lf ls k).la]] _ (.dL [oI z1 118 [v8 ((lf ls k).op),vI (lf ls k).d.vars,vI (((lf ls k).d.start.toNat:Nat):Int),(.slice (lk ks k).k.nb ((lf ls k).d.next.length) ((lk ks k).k.nc)),(.slice (lk ks k).k.fb ((lf ls k).d.aA.length) ((lk ks k).k.fc)),(.slice (lk ks k).b ((lf ls k).fo.length) ((lk ks k).c)),.bool (lf ls k).la]] _ (.k (.k .z))))
 refine aj F (aI C8 T4 F ?_)
 clear T4
 rintro vr O' ⟨Bk,Bl,l4,rfl,rfl,P5,P6⟩
 refine ae (ai (ad (aJ gq F aX F F) (ad (aJ cy F ce F F) (ad (aO 2 dF F F F F) (ad (aJ gq F aX F F) (ad (aJ cy F aM F F) (ad (aO 2 dh F F F F) (ad (cq (i:=((lf ls k).d.start.toNat)) dF dc F F (aB (ho.dk _ hk).aA) (by rw[hv.fin];exact sB) (by rw[List.length_map,hv.fin];exact sB)) (ad (bS oe F F (aB (ho.dk _ hk).aA) (l_ hv sB)) (ae (T.cond F (fun hc=>?_) (fun hc=>?_))))))))))))
 ·have y8:dK (lf ls k).d (lf ls k).d.start.toNat=true:=hc
  refine aH (ah F (ah F (ah F (ah F ?_))))
  have T5:=bw.sub (O':=[oI zs 122 [(.slice bb bh.length bc),(.slice Bk l4.length Bl)],ak Bk Bl 169 3 (cz l4),ak bb kK 3 1 (aQ bh)]++eR 173 p) (O:=([oI zs 122 [(.slice bb bh.length bc),(.slice Bk l4.length Bl)],ak Bk Bl 169 3 (cz l4),oI z1 118 [v8 ((lf ls k).op),vI (lf ls k).d.vars,vI (((lf ls k).d.start.toNat:Nat):Int),(.slice (lk ks k).k.nb ((lf ls k).d.next.length) ((lk ks k).k.nc)),(.slice (lk ks k).k.fb ((lf ls k).d.aA.length) ((lk ks k).k.fc)),(.slice (lk ks k).b ((lf ls k).fo.length) ((lk ks k).c)),.bool (lf ls k).la],ak bb kK 3 1 (aQ bh)]++(eR 173 p))) (by exact(by exact Sub.k (.k (.d (.k .rf))))) (hL r LH Bk Bl l4 p P6 Ca)
  refine aj F (aI y7 T5 F ?_)
  clear T5
  rintro vr O' ⟨LD,LF,l3,p3,rfl,rfl,LG,Gt,Az⟩
  refine ae (ao ?_)
  refine qb.zero Tryz.results109 ?_
  exact⟨_,a_ (List.Sublist.refl _),LD,LF,l3,p3,F,F,by rw[LG,P5];unfold ft;rw[if_neg (by omega),if_neg (by omega),if_pos y8];rfl,Gt,Az⟩
 have y8: ¬dK (lf ls k).d (lf ls k).d.start.toNat=true:=by rw[hc];simp
 refine aq (ao ?_)
 refine qb.zero Tryz.results109 ?_
 exact⟨[oI zs 122 [(.slice bb bh.length bc),(.slice Bk l4.length Bl)],ak Bk Bl 169 3 (cz l4),ak bb kK 3 1 (aQ bh)]++eR 173 p,(by exact Sub.k (.k (.d (.k .rf)))),Bk,Bl,l4,p,F,F,by rw[P5];unfold ft;rw[if_neg (by omega),if_neg (by omega),if_neg y8];rfl,P6,fun x hx=>hx⟩
theorem C9 (base:World) [cG Tryz.prog base] (ob:Nat) (lb:Option Addr) (lc:Nat) (cv fv:Value) (ls:List Lf) (ks:List LK) (ho:jK base ob lb lc cv fv ls ks) (vs:Nat) (hG:gU ls vs) {K:Nat} (hK:p7 ls K) (wa:K<1099511627776) (zs:Nat) (bb:Option Addr) (bc kK:Nat) (bh:List Nat) (hb:n6 ls bh): ∀f:Nat,
  (∀(k:Nat) (r:OB),k<ls.length→2*(ls.length-k)≤f→eE ls k r.o→o_ base 109 [(du (aD ob) 0),(.pointer (aD zs)),vI ((k:Nat):Int),(.slice r.b r.o.length r.c)] zs bb bc kK bh ls r (ft ls f bh k r.o))∧
  (∀(k:Nat) (r:OB),k<ls.length→2*(ls.length-k)≤f+1→eE ls (k+1) r.o→o_ base 115 [(du (aD ob) 0),(.pointer (aD zs)),vI ((k:Nat):Int),(.slice r.b r.o.length r.c)] zs bb bc kK bh ls r (fQ ls f bh k r.o))
 |0=>⟨fun k r hk hf=>absurd hf (by omega),fun k r hk hf=>absurd hf (by omega)⟩
 |f+1=>by
  obtain⟨h1,h2⟩:=C9 base ob lb lc cv fv ls ks ho vs hG hK wa zs bb bc kK bh hb f
  refine⟨fun k r hk hf uv=>?_,fun k r hk hf uv=>?_⟩
  ·have hL: ∀r2:OB,eE ls (k+1) r2.o→o_ base 115 [(du (aD ob) 0),(.pointer (aD zs)),vI ((k:Nat):Int),(.slice r2.b r2.o.length r2.c)] zs bb bc kK bh ls r2 (fQ ls f bh k r2.o):=fun r2 MP=>h2 k r2 hk (by omega) MP
   intro cb cc l p hS Ca
   rcases hG.op _ (jj hk)with h|h|h
   ·exact LI base ob lb lc cv fv ls ks ho vs hG hK wa zs bb bc kK bh hb k hk h r uv f hL cb cc l p hS Ca
   ·exact P7 base ob lb lc cv fv ls ks ho vs hG hK wa zs bb bc kK bh hb k hk h r uv f hL cb cc l p hS Ca
   ·exact P8 base ob lb lc cv fv ls ks ho vs hG hK wa zs bb bc kK bh hb k hk h r uv f hL cb cc l p hS Ca
  ·intro cb cc l p hS Ca
   exact P4 base ob lb lc cv fv ls ks ho vs hG hK wa zs bb bc kK bh hb k hk r (uv.mono hk) f (fun j hj=>h1 j r (hG.fo k hk j hj).2 (by have:=hG.fo k hk j hj;omega) (uv.mono (hG.fo k hk j hj).1)) cb cc l p hS Ca
end Go.Proofs.YtgdbfideeeegmaaGreatDoor

namespace Go.Proofs.YtgdbfideeeegmaaGreatDoor
open Go.Lx Go.RowKit _root_.Go.Proofs.Tryz
theorem LP (w:World) [cG Tryz.prog w] (eb:Option Addr) (ec:Nat) (e:List dE) (hE:Sl w eb (aT e)) (Kg:e.length≤64) (qK: ∀x∈e,x.p<256∧x.n<256) (v:Nat) (hv:v≤6):
  bs Tryz.prog 89 [.slice eb e.length ec,vN v] w fun r N=>(∃n,iV v e=.error n∧r=.tuple #[nS,vI (n:Int)]∧N=[])∨(∃fs b c,iV v e=.ok fs∧r=.tuple #[.slice b e.length c,vI 0]∧N=[ak b c 3 1 (aQ fs)]):=by
 refine av func89 F ntmps89 F ?_
 refine ai (TO.qa F (TO.qa F (ae (ax (ai (ah F (ad (bL cp F) (ah F (ae (aC (T.dt 3 1 ?_)))))))))))
 refine cE (fun(i:Nat) ρ O=> ∃(fs:List Nat) (b:Option Addr) (c:Nat),O=[ak b c 3 1 (aQ fs)]∧i≤e.length∧fs.length=i∧iV v (e.take i)=.ok fs∧(∀j,j<i→fs.getD j 0≤j)∧bZ [(0,(.slice eb e.length ec)),(1,vN v),(4,(.slice b i c)),(10,(.slice eb e.length ec)),(11,vI (e.length:Int)),(12,vN i)] ρ) (fun i=>e.length-i) 0 ?_ ?_
 ·exact⟨[],none,0,F,Nat.zero_le _,F,F,fun j hj=>absurd hj (by omega),(.of F)⟩
 rintro i ρ O ⟨fs,b,c,rfl,hi,qp,j8,y8,hH⟩
 obtain⟨eP,rfl⟩:=hH.elim
 clear hH
 refine ai (ad (bI F F) (ae (ax (aw F (fun hc=>?_) (fun hc=>?_)))))
 ·have kX:i<e.length:=by omega
  have J5:=qK _ (List.getElem_mem kX)
  refine aq (ax (aC (ai (ah F (ad (db (i:=i) cp bQ F F (aB hE) kX (by rw[bF];omega)) (ad (dT (vs:=e[i].cl) bK F bQ F F (Nat.succ_pos _) (aB hE) (lI kX)) (aj F (aR bQ F (fun z1=>?_)))))))))
  refine TO.qa F (aj F (bj (vs:=e[i].cl) 0 bQ F F F F ?_))
  refine ae (ax (ai (ad (cN 0 bK F bQ F F F) (ah F ?_))))
  have oS:=fun(w1:World) (hI:Inv w [oI z1 72 e[i].cl,ak b c 3 1 (aQ fs)] w1)=>(haveI:=dp hI;Qj w1 e[i] v J5.1 J5.2 hv)
  refine aj F (aI Qk (aE oS) F ?_)
  clear oS
  rintro vr O' ⟨N,rfl,rfl,rfl⟩
  refine TO.qa F (ae (ai (ah F (ad (cS F F) (ae (aw F (fun hc=>?_) (fun hc=>?_)))))))
  ·have jA:gi v e[i]≠0:=by omega
   have qI:gi v e[i]≠0:=by omega
   refine ai (ah F (TO.qa F (TO.qa F (ae (az (ao ?_))))))
   refine ct nS (vI (gi v e[i]:Int)) Tryz.results89 F F ?_
   have hs:fW v fs e[i]=.error (gi v e[i]):=by unfold fW;simp only[qp];rw[if_pos qI]
   exact⟨[],Sub.z,.inl ⟨_,iF kX j8 hs,F,F⟩⟩
  have nW: ¬gi v e[i]≠0:=by omega
  have qI: ¬gi v e[i]≠0:=by omega
  refine aq (ai (ah F (TO.qa F (ae (ax (ax ?_))))))
  refine dO [(1,0),(2,0),(0,1),(3,2),(4,2)] ?_
  refine am F (aJ bK F cP F F) (am F (aO 0 eC F F F F) ?_)
  have oW:=fun(w1:World) (hI:Inv w [oI z1 72 e[i].cl,ak b c 3 1 (aQ fs)] w1)=>(haveI:=dp hI;nQ w1)
  refine bJ F F (aI Ev (aE oW) F ?_)
  clear oW
  rintro vr O' ⟨N,rfl,m,rfl,rfl⟩
  refine⟨by exact Sub.d (.k (.k .z)),?_⟩
  refine bq F F (dG F F (a8 (oC (a:=e[i].op) uq jS (e8.u8 eC) F F (mG 0 F)) (v':=(.agg #[vN (cT e[i].op),str (g_ e[i].op).1,str (g_ e[i].op).2.1,str (g_ e[i].op).2.2])) (sf e[i].op)) ?_)
  refine bq F F (dG F F (DN Bw F dh F F F) ?_)
  refine bu ?_
  refine aC (ai ?_)
  refine ad (bo F F) (TO.qa F (ae (aw F (fun hc=>?_) (fun hc=>?_))))
  ·have TI:cT e[i].op=1:=by omega
   have n3:cT e[i].op=1:=by omega
   refine ax (ai (ah F (ad (bo F F) ?_)))
   by_cases Uv:((i:Nat):Int)=0
   ·refine ad (ar (aF F) (decide_eq_true Uv)) ?_
    refine ay F F (ay F F (ay F F (ay F F (ay F F (ad (bt F F) (ae ?_))))))
    refine bg F ?_
    refine ai (TO.qa F (TO.qa F (ae (az (ao ?_)))))
    refine ct nS (vI 8) Tryz.results89 F F ?_
    have hs:fW v fs e[i]=.error 8:=by unfold fW;simp only[qp];first|(rw[if_neg qI,if_pos n3,if_pos (by omega)];done)|(rw[if_neg qI,if_neg n3,if_pos rh,if_pos (by omega)];done)
    exact⟨[],Sub.z,.inl ⟨8,iF kX j8 hs,F,F⟩⟩
   refine ad (ar (aF F) (decide_eq_false Uv)) (ap F F (aJ bK F aM F F) (ap F F (aO 1 dh F F F F) (ap F F (aF F) (ap F F (a8 (eQ F F (by omega)) (v':=vN (i-1)) (congrArg (Value.int .i64) (by omega))) (ap F F (cS F F) (ad (aZ F F) (ae (aw F (fun hc=>?_) (fun hc=>?_)))))))))
   ·refine ax ?_
    refine aH (TO.qa F (TO.qa F (ae (az (ao ?_)))))
    refine ct nS (vI 8) Tryz.results89 F F ?_
    have hs:fW v fs e[i]=.error 8:=by unfold fW;simp only[qp];first|(rw[if_neg qI,if_pos n3,if_pos (by omega)];done)|(rw[if_neg qI,if_neg n3,if_pos rh,if_pos (by omega)];done)
    exact⟨[],Sub.z,.inl ⟨8,iF kX j8 hs,F,F⟩⟩
   have DR:e[i].a=(((i-1):Nat):Int):=by omega
   have hfi:=y8 (i-1) (by omega)
   refine aq (aH (ah F (ah F (ad (a8 (eQ F F (by omega)) (v':=vN (i-1)) (congrArg (Value.int .i64) (by omega))) (ad (cq (i:=(i-1)) bT aM F F (cw (mG 2 F)) (by omega) (by rw[List.length_map];omega)) (ad (bS dh F F (cw (mG 2 F)) (j5 (show i-1<fs.length by omega))) (TO.qa F (ae (aH (ah F (ah F (aj F (bN (v:=vN (fs.getD (i-1) 0)) bT aM F F F (fun z2=>?_))))))))))))))
   refine aj F (bX 3 bT bT aM F F F F (by rw[List.length_map];omega) (by decide) (Src.row (j:=0) F (by simp)) (by simp[dD]) (by omega) (by decide) (by decide) (fun z3 oh=>?_))
   refine TO.qa F (ae (aH (ad (cj (a:=i) (b:=1) F F (by omega)) (ah F (ae ?_)))))
   have hs:fW v fs e[i]=.ok (fs.getD (i-1) 0):=by unfold fW;simp only[qp];rw[if_neg qI,if_pos n3,if_neg (by omega)]
   exact⟨i+1,by omega,[ak z3 oh 3 1 ((aQ fs)++[vN (fs.getD (i-1) 0)])],(by exact Sub.d (.d (.d (.k .z)))),fs++[(fs.getD (i-1) 0)],z3,oh,by rw[show aQ (fs++[(fs.getD (i-1) 0)])=aQ fs++[vN (fs.getD (i-1) 0)]from List.map_append],by omega,by simp[qp],pj kX j8 hs,pO qp y8 (by omega),(.of F)⟩
  have TJ: ¬cT e[i].op=1:=by omega
  have n3: ¬cT e[i].op=1:=by omega
  refine ai (ad (bo F F) (TO.qa F (ae (aw F (fun hc=>?_) (fun hc=>?_)))))
  ·have GM:cT e[i].op=2:=by omega
   have rh:cT e[i].op=2:=by omega
   have aaL:fs.getD (i-1) 0≤i:=by
    by_cases h9:i=0
    ·rw[List.length_eq_zero_iff.1 (show fs.length=0 by omega)];simp
    ·have:=y8 (i-1) (by omega);omega
   refine ax (ax ?_)
   refine dO [(0,0),(1,0),(2,0),(3,0),(4,0),(5,0),(6,0),(7,0),(8,0),(9,0),(10,0),(11,0),(12,0),(13,0),(14,0),(15,0),(16,0),(17,0),(18,0),(19,0),(20,0),(21,0),(22,0),(23,0),(24,0),(25,0),(26,0),(27,0)] ?_
   refine am F (aF F) (am F (bo F F) ?_)
   by_cases Uv:((i:Nat):Int)=0
   ·refine am F (ar (aF F) (decide_eq_true Uv)) ?_
    refine be F F F (be F F F (be F F F (be F F F (be F F F (am F (bt F F) (am F (aF F) (be F F F (be F F F ?_))))))))
    refine be F F F (be F F F (be F F F (be F F F (am F (bt F F) (am F (aF F) (be F F F (be F F F (be F F F ?_))))))))
    refine be F F F (be F F F (be F F F (be F F F (be F F F (be F F F (am F (bt F F) ?_))))))
    refine bu ?_
    refine bg F ?_
    refine ai (TO.qa F (TO.qa F (ae (az (ao ?_)))))
    refine ct nS (vI 8) Tryz.results89 F F ?_
    have hs:fW v fs e[i]=.error 8:=by unfold fW;simp only[qp];first|(rw[if_neg qI,if_pos n3,if_pos (by omega)];done)|(rw[if_neg qI,if_neg n3,if_pos rh,if_pos (by omega)];done)
    exact⟨[],Sub.z,.inl ⟨8,iF kX j8 hs,F,F⟩⟩
   refine am F (ar (aF F) (decide_eq_false Uv)) ?_
   refine aS F F F (aJ bK F aM F F) ?_
   refine aS F F F (aO 1 dh F F F F) ?_
   refine aS F F F (aF F) ?_
   refine aS F F F (a8 (eQ F F (by omega)) (v':=vN (i-1)) (congrArg (Value.int .i64) (by omega))) ?_
   refine aS F F F (cS F F) ?_
   refine am F (aZ F F) ?_
   by_cases Ae:e[i].b≠(((i-1):Nat):Int)
   ·refine am F (ar (aF F) (decide_eq_true Ae)) ?_
    refine be F F F (be F F F (be F F F (be F F F (be F F F (be F F F (am F (bt F F) (am F (aF F) (be F F F ?_))))))))
    refine be F F F (be F F F (be F F F (be F F F (be F F F (be F F F (be F F F (be F F F ?_)))))))
    refine am F (bt F F) ?_
    refine bu ?_
    refine bg F ?_
    refine ai (TO.qa F (TO.qa F (ae (az (ao ?_)))))
    refine ct nS (vI 8) Tryz.results89 F F ?_
    have hs:fW v fs e[i]=.error 8:=by unfold fW;simp only[qp];first|(rw[if_neg qI,if_pos n3,if_pos (by omega)];done)|(rw[if_neg qI,if_neg n3,if_pos rh,if_pos (by omega)];done)
    exact⟨[],Sub.z,.inl ⟨8,iF kX j8 hs,F,F⟩⟩
   refine am F (ar (aF F) (decide_eq_false Ae)) ?_
   refine aS F F F (aF F) ?_
   refine aS F F F (aF F) ?_
   refine aS F F F (a8 (eQ F F (by omega)) (v':=vN (i-1)) (congrArg (Value.int .i64) (by omega))) ?_
   refine aS F F F (cq (i:=(i-1)) bT aM F F (cw (mG 2 F)) (by omega) (by rw[List.length_map];omega)) ?_
   refine aS F F F (bS dh F F (cw (mG 2 F)) (j5 (show i-1<fs.length by omega))) ?_
   refine aS F F F (bo F F) ?_
   refine am F (aZ F F) ?_
   by_cases VL:((fs.getD (i-1) 0:Nat):Int)=0
   ·refine am F (ar (aF F) (decide_eq_true VL)) ?_
    refine be F F F (be F F F (be F F F (be F F F (be F F F (be F F F (be F F F (be F F F ?_)))))))
    refine be F F F (am F (bt F F) ?_)
    refine bu ?_
    refine bg F ?_
    refine ai (TO.qa F (TO.qa F (ae (az (ao ?_)))))
    refine ct nS (vI 8) Tryz.results89 F F ?_
    have hs:fW v fs e[i]=.error 8:=by unfold fW;simp only[qp];first|(rw[if_neg qI,if_pos n3,if_pos (by omega)];done)|(rw[if_neg qI,if_neg n3,if_pos rh,if_pos (by omega)];done)
    exact⟨[],Sub.z,.inl ⟨8,iF kX j8 hs,F,F⟩⟩
   refine am F (ar (aF F) (decide_eq_false VL)) ?_
   refine aS F F F (aJ bK F aM F F) ?_
   refine aS F F F (aO 1 dh F F F F) ?_
   refine aS F F F (aF F) ?_
   refine aS F F F (aF F) ?_
   refine aS F F F (a8 (eQ F F (by omega)) (v':=vN (i-1)) (congrArg (Value.int .i64) (by omega))) ?_
   refine aS F F F (cq (i:=(i-1)) bT aM F F (cw (mG 2 F)) (by omega) (by rw[List.length_map];omega)) ?_
   refine aS F F F (bS dh F F (cw (mG 2 F)) (j5 (show i-1<fs.length by omega))) ?_
   refine aS F F F (a8 (eQ F F (by omega)) (v':=vN (fs.getD (i-1) 0-1)) (congrArg (Value.int .i64) (by omega))) ?_
   refine aS F F F (cS F F) ?_
   refine am F (aZ F F) ?_
   refine bu ?_
   refine aw F (fun hc=>?_) (fun hc=>?_)
   ·refine ax ?_
    refine aH (TO.qa F (TO.qa F (ae (az (ao ?_)))))
    refine ct nS (vI 8) Tryz.results89 F F ?_
    have hs:fW v fs e[i]=.error 8:=by unfold fW;simp only[qp];first|(rw[if_neg qI,if_pos n3,if_pos (by omega)];done)|(rw[if_neg qI,if_neg n3,if_pos rh,if_pos (by omega)];done)
    exact⟨[],Sub.z,.inl ⟨8,iF kX j8 hs,F,F⟩⟩
   have DR:e[i].a=(((fs.getD (i-1) 0-1):Nat):Int):=by omega
   have hfi:=y8 (i-1) (by omega)
   have hfa:=y8 (fs.getD (i-1) 0-1) (by omega)
   refine aq (aH (ah F (ad (aJ bK F aM F F) (ad (a8 (aO 1 dh F F F F) (v':=vN (fs.getD (i-1) 0-1)) (by show Value.int _ e[i].a=_;rw[DR])) (ad (cq (i:=(fs.getD (i-1) 0-1)) bT aM F F (cw (mG 2 F)) (by omega) (by rw[List.length_map];omega)) (ad (bS dh F F (cw (mG 2 F)) (j5 (show(fs.getD (i-1) 0-1)<fs.length by omega))) (TO.qa F (ae (aH (ah F (ah F (aj F (bN (v:=vN (fs.getD (fs.getD (i-1) 0-1) 0)) bT aM F F F (fun z5=>?_))))))))))))))
   refine aj F (bX 3 bT bT aM F F F F (by rw[List.length_map];omega) (by decide) (Src.row (j:=0) F (by simp)) (by simp[dD]) (by omega) (by decide) (by decide) (fun z6 AA=>?_))
   refine TO.qa F (ae (aH (ad (cj (a:=i) (b:=1) F F (by omega)) (ah F (ae ?_)))))
   have hs:fW v fs e[i]=.ok (fs.getD (fs.getD (i-1) 0-1) 0):=by unfold fW;simp only[qp];rw[if_neg qI,if_neg n3,if_pos rh,if_neg (by omega),DR,Int.toNat_natCast]
   exact⟨i+1,by omega,[ak z6 AA 3 1 ((aQ fs)++[vN (fs.getD (fs.getD (i-1) 0-1) 0)])],(by exact Sub.d (.d (.d (.k .z)))),fs++[(fs.getD (fs.getD (i-1) 0-1) 0)],z6,AA,by rw[show aQ (fs++[(fs.getD (fs.getD (i-1) 0-1) 0)])=aQ fs++[vN (fs.getD (fs.getD (i-1) 0-1) 0)]from List.map_append],by omega,by simp[qp],pj kX j8 hs,pO qp y8 (by omega),(.of F)⟩
  have xl: ¬cT e[i].op=2:=by omega
  have rh: ¬cT e[i].op=2:=by omega
  refine aq (aH (ah F (ah F (aj F (bN (v:=vN i) bT aM F F F (fun z8=>?_))))))
  refine aj F (bX 3 bT bT aM F F F F (by rw[List.length_map];omega) (by decide) (Src.row (j:=0) F (by simp)) (by simp[dD]) (by omega) (by decide) (by decide) (fun z9 k_=>?_))
  refine TO.qa F (ae (aH (ad (cj (a:=i) (b:=1) F F (by omega)) (ah F (ae ?_)))))
  have hs:fW v fs e[i]=.ok i:=by unfold fW;simp only[qp];rw[if_neg qI,if_neg n3,if_neg rh]
  exact⟨i+1,by omega,[ak z9 k_ 3 1 ((aQ fs)++[vN i])],(by exact Sub.d (.d (.d (.k .z)))),fs++[i],z9,k_,by rw[show aQ (fs++[i])=aQ fs++[vN i]from List.map_append],by omega,by simp[qp],pj kX j8 hs,pO qp y8 (Nat.le_refl _),(.of F)⟩
 have Hy: ¬i<e.length:=by omega
 refine bn ?_
 refine ai (ah F (TO.qa F (TO.qa F (ae (az (ao ?_))))))
 refine ct (.slice b i c) (vI 0) Tryz.results89 F F ?_
 have sO:i=e.length:=by omega
 subst sO
 rw[List.take_length]at j8
 exact⟨[ak b c 3 1 (aQ fs)],(by exact Sub.rf),.inr ⟨fs,b,c,j8,F,F⟩⟩
end Go.Proofs.YtgdbfideeeegmaaGreatDoor

namespace Go.Proofs.YtgdbfideeeegmaaGreatDoor
open Go.Lx Go.RowKit _root_.Go.Proofs.Tryz
theorem LQ (w:World) [cG Tryz.prog w] (eb:Option Addr) (ec:Nat) (e:List dE) (hE:Sl w eb (aT e)) (z2 z8:Nat) (h2:Sl w (aD z2) [.slice eb e.length ec]) (h8:Sl w (aD z8) [(.func (.func 90) #[] #[(du (aD z2) 0),(du (aD z8) 0)])]) (i f:Nat) (fr:Bool) (hi:i<e.length) (DW:1≤cT e[i].op→ ∀w1 [cG Tryz.prog w1],Inv w [] w1→ ∀g:Bool,dW Tryz.prog w1 (.func (.func 90) #[] #[(du (aD z2) 0),(du (aD z8) 0)]) [vI e[i].a,.bool g] [] (fun v N=>v=.bool (lH e f e[i].a.toNat g)∧N=[])) (HA:2≤cT e[i].op→ ∀w1 [cG Tryz.prog w1],Inv w [] w1→ ∀g:Bool,dW Tryz.prog w1 (.func (.func 90) #[] #[(du (aD z2) 0),(du (aD z8) 0)]) [vI e[i].b,.bool g] [] (fun v N=>v=.bool (lH e f e[i].b.toNat g)∧N=[])):
  bs Tryz.prog 90 [vN i,.bool fr,(du (aD z2) 0),(du (aD z8) 0)] w fun v N=>v=.bool (lH e (f+1) i fr)∧N=[]:=by
 refine av func90 F ntmps90 F ?_
 refine ai (TO.qa F (ae (ai (ad (bS cp F F (aB h2) F) (ah F (ad (db (i:=i) cp bQ F F (aB hE) hi (by rw[bF];omega)) (ad (dT (vs:=e[i].cl) bK F bQ F F (Nat.succ_pos _) (aB hE) (lI hi)) (aj F (aR bQ F (fun z1=>?_))))))))))
 refine aj F (bj (vs:=e[i].cl) 0 bQ F F F F ?_)
 refine ae ?_
 let dS:Lx.Item:=oI z1 72 e[i].cl
 refine fg (fun ρ O=>Sub [dS] O∧(¬((e[i].op=9∨e[i].op=10)∧fr=false))∧bZ [(0,vN i),(1,.bool fr),(2,(du (aD z2) 0)),(3,(du (aD z8) 0)),(7,(.pointer (aD z1)))] ρ) ?_ ?_
 ·refine ax ?_
  refine aH (ad (aJ bK F cP F F) (ad (aO 0 eC F F F F) (ad (bo F F) ?_)))
  by_cases h9:((e[i].op:Nat):Int)=9
  ·refine ad (ar (aF F) (decide_eq_true h9)) ?_
   refine ay F F (ay F F (ay F F (ad (bt F F) (ah F (ap F F (aF F) (ap F F (f_ F) (ad (bt F F) (ae (T.cond F (fun hc=>?_) (fun hc=>?_))))))))))
   ·refine ax ?_
    refine aH (TO.qa F (ae (az (ao ?_))))
    refine aG (.bool false) Tryz.results90 F ?_
    exact⟨[],Sub.z,congrArg Value.bool (by rw[ld hi,if_pos ⟨by omega,by simpa using hc⟩]),F⟩
   refine aq ?_
   exact⟨(by exact Sub.rf),(fun h=>by rw[h.2]at hc;exact absurd hc (by decide)),(.of F)⟩
  refine ad (ar (aF F) (decide_eq_false h9)) (ap F F (aJ bK F cP F F) (ap F F (aO 0 eC F F F F) (ap F F (bo F F) ?_)))
  by_cases Q4:((e[i].op:Nat):Int)=10
  ·refine ad (ar (aZ F F) (decide_eq_true Q4)) ?_
   refine ah F (ap F F (aF F) (ap F F (f_ F) (ad (bt F F) (ae (T.cond F (fun hc=>?_) (fun hc=>?_))))))
   ·refine ax ?_
    refine aH (TO.qa F (ae (az (ao ?_))))
    refine aG (.bool false) Tryz.results90 F ?_
    exact⟨[],Sub.z,congrArg Value.bool (by rw[ld hi,if_pos ⟨by omega,by simpa using hc⟩]),F⟩
   refine aq ?_
   exact⟨(by exact Sub.rf),(fun h=>by rw[h.2]at hc;exact absurd hc (by decide)),(.of F)⟩
  refine ad (ar (aZ F F) (decide_eq_false Q4)) (ah F (ay F F (ay F F (ad (aZ F F) (ae (aL F (aq ?_)))))))
  exact⟨(by exact Sub.rf),(fun h=>absurd h.1 (by omega)),(.of F)⟩
 rintro ρ O ⟨hS,VM,hH⟩
 obtain⟨eP,rfl⟩:=hH.elim
 clear hH
 refine cu hS ?_
 refine fg (fun ρ O=>Sub [dS] O∧bZ [(0,vN i),(1,.bool (fr&&decide (e[i].op=4∨e[i].op=5))),(2,(du (aD z2) 0)),(3,(du (aD z8) 0)),(7,(.pointer (aD z1)))] ρ) ?_ ?_
 ·refine aH ?_
  by_cases HB:fr=true
  ·refine ad (ar (aF F) (HB)) ?_
   refine ah F (ap F F (aJ bK F cP F F) (ap F F (aO 0 eC F F F F) (ap F F (bo F F) ?_)))
   by_cases h4:((e[i].op:Nat):Int)=4
   ·refine ap F F (ar (aF F) (decide_eq_true h4)) ?_
    refine ay F F (ay F F (ay F F (ap F F (bt F F) (ad (bt F F) (TO.qa F (ae ?_))))))
    exact⟨(by exact Sub.rf),⟨F,(congrArg Value.bool (by rw[HB,decide_eq_true (show e[i].op=4∨e[i].op=5 by omega)];rfl)),F,F,F,trivial⟩⟩
   refine ap F F (ar (aF F) (decide_eq_false h4)) (ap F F (aJ bK F cP F F) (ap F F (aO 0 eC F F F F) (ap F F (bo F F) (ap F F (aZ F F) (ad (bt F F) (TO.qa F (ae ?_)))))))
   exact⟨(by exact Sub.rf),⟨F,(congrArg Value.bool (by rw[HB,Bool.true_and];exact decide_eq_decide.2 (by omega))),F,F,F,trivial⟩⟩
  refine ad (ar (aF F) (Bool.eq_false_iff.2 HB)) (ah F (ay F F (ay F F (ay F F (ay F F (ay F F (ay F F (ay F F ?_))))))))
  refine ay F F (ad (aZ F F) (TO.qa F (ae ?_)))
  exact⟨(by exact Sub.rf),⟨F,(congrArg Value.bool (by rw[Bool.eq_false_iff.2 HB];rfl)),F,F,F,trivial⟩⟩
 rintro ρ O ⟨hS,hH⟩
 obtain⟨eP,rfl⟩:=hH.elim
 clear hH
 refine cu hS ?_
 refine ax ?_
 refine dO [(1,0),(2,0),(0,1),(3,2),(4,2),(5,2)] ?_
 refine am F (aJ bK F cP F F) (am F (aO 0 eC F F F F) ?_)
 have vF:=fun(w1:World) (hI:Inv w [dS] w1)=>(haveI:=dp hI;nQ w1)
 refine bJ F F (aI Ev (aE vF) F ?_)
 clear vF
 rintro vr O' ⟨N,rfl,m,rfl,rfl⟩
 refine⟨by exact Sub.d (.k .z),?_⟩
 refine bq F F (dG F F (a8 (oC (a:=e[i].op) uq jS (e8.u8 eC) F F (mG 0 F)) (v':=(.agg #[vN (cT e[i].op),str (g_ e[i].op).1,str (g_ e[i].op).2.1,str (g_ e[i].op).2.2])) (sf e[i].op)) ?_)
 refine bq F F (dG F F (DN Bw F dh F F F) ?_)
 refine bq F F (dG F F (cD F) ?_)
 refine bu ?_
 refine ai (ah F (ad (bI F F) ?_))
 by_cases rL:((cT e[i].op:Nat):Int)<1
 ·refine ad (ar (aF F) (decide_eq_true rL)) ?_
  refine ay F F (ay F F (ay F F (ay F F (ay F F (ad (bt F F) (ah F (ap F F (aF F) (ap F F (ar (bI F F) (decide_eq_true (by omega))) ?_))))))))
  refine ap F F (aF F) (ay F F (ay F F (ay F F (ay F F (ay F F (ap F F (bt F F) (ad (bt F F) (TO.qa F ?_))))))))
  refine ae (az (ao ?_))
  refine aG (.bool true) Tryz.results90 F ?_
  exact⟨[],Sub.z,congrArg Value.bool (by rw[ld hi,if_neg VM,decide_eq_true (show cT e[i].op<1 by omega),decide_eq_true (show cT e[i].op<2 by omega)];rfl),F⟩
 refine ad (ar (aF F) (decide_eq_false rL)) (ap F F (bS IV F F (aB h8) F) (ap F F (aJ bK F aM F F) (ap F F (aO 1 dh F F F F) (ap F F (aF F) ?_))))
 have Uw:=(cF (base:=w) (O:=[Bv m,dS]) fun w1 hI=>haveI:=dp hI;haveI:=dp hI;DW (by omega) w1 hI.lY (fr&&decide (e[i].op=4∨e[i].op=5)))
 refine fL F F F (dQ Uw F F ?_)
 clear Uw
 rintro vr O' ⟨N,rfl,rfl,rfl⟩
 refine ad (aZ F F) ?_
 by_cases Ux:(lH e f e[i].a.toNat (fr&&decide (e[i].op=4∨e[i].op=5)))=true
 ·refine ad (ar (aF F) (Ux)) ?_
  refine ap F F (aF F) (ap F F (bI F F) ?_)
  by_cases n_:((cT e[i].op:Nat):Int)<2
  ·refine ap F F (ar (aF F) (decide_eq_true n_)) ?_
   refine ay F F (ay F F (ay F F (ay F F (ay F F (ap F F (bt F F) (ad (bt F F) (TO.qa F (ae (az (ao ?_))))))))))
   refine aG (.bool true) Tryz.results90 F ?_
   exact⟨[],Sub.z,congrArg Value.bool (by rw[ld hi,if_neg VM,decide_eq_false (show¬cT e[i].op<1 by omega),Ux,decide_eq_true (show cT e[i].op<2 by omega)];rfl),F⟩
  refine ap F F (ar (aF F) (decide_eq_false n_)) (ap F F (bS IV F F (aB h8) F) (ap F F (aJ bK F aM F F) (ap F F (aO 1 dh F F F F) (ap F F (aF F) ?_))))
  have zS:=(cF (base:=w) (O:=[Bv m,dS]) fun w1 hI=>haveI:=dp hI;haveI:=dp hI;HA (by omega) w1 hI.lY (fr&&decide (e[i].op=4∨e[i].op=5)))
  refine fL F F F (dQ zS F F ?_)
  clear zS
  rintro vr O' ⟨N,rfl,rfl,rfl⟩
  refine ap F F (aZ F F) (ad (bt F F) (TO.qa F (ae (az (ao ?_)))))
  refine aG (.bool (lH e f e[i].b.toNat (fr&&decide (e[i].op=4∨e[i].op=5)))) Tryz.results90 F ?_
  exact⟨[],Sub.z,congrArg Value.bool (by rw[ld hi,if_neg VM,decide_eq_false (show¬cT e[i].op<1 by omega),Ux,decide_eq_false (show¬cT e[i].op<2 by omega)];rfl),F⟩
 refine ad (ar (aF F) (Bool.eq_false_iff.2 Ux)) (ay F F (ay F F (ay F F (ay F F (ay F F (ay F F (ay F F ?_)))))))
 refine ay F F (ay F F (ad (aZ F F) (TO.qa F (ae (az (ao ?_))))))
 refine aG (.bool false) Tryz.results90 F ?_
 exact⟨[],Sub.z,congrArg Value.bool (by rw[ld hi,if_neg VM,decide_eq_false (show¬cT e[i].op<1 by omega),Bool.eq_false_iff.2 Ux];rfl),F⟩
def IW (e:List dE):Prop:= ∀i (h:i<e.length),(1≤cT e[i].op→ ∃j:Nat,e[i].a=(j:Int)∧j<i)∧(2≤cT e[i].op→ ∃j:Nat,e[i].b=(j:Int)∧j<i)
set_option maxRecDepth 20000 in
theorem Ql (w:World) [cG Tryz.prog w] (eb:Option Addr) (ec:Nat) (e:List dE) (hE:Sl w eb (aT e)) (z2 z8:Nat) (h2:Sl w (aD z2) [.slice eb e.length ec]) (h8:Sl w (aD z8) [(.func (.func 90) #[] #[(du (aD z2) 0),(du (aD z8) 0)])]) (ht:IW e): ∀(f i:Nat) (hi:i<e.length) (hf:i<f) (fr:Bool),
  bs Tryz.prog 90 [vN i,.bool fr,(du (aD z2) 0),(du (aD z8) 0)] w fun v N=>v=.bool (lH e f i fr)∧N=[]
 |0,i,hi,hf,fr=>absurd hf (by omega)
 |f+1,i,hi,hf,fr=>LQ w eb ec e hE z2 z8 h2 h8 i f fr hi (fun Vv w1 _ hI g=>by
   obtain⟨j,hj,DF⟩:=(ht i hi).1 Vv
   rw[hj,Int.toNat_natCast]
   exact b_ (first:=[]) (args:=[vN j,.bool g]) (fK:=[(du (aD z2) 0),(du (aD z8) 0)]) IX (Ql w1 eb ec e (hI.sl hE) z2 z8 (hI.sl h2) (hI.sl h8) ht f j (by omega) (by omega) g)) (fun Vv w1 _ hI g=>by
   obtain⟨j,hj,DF⟩:=(ht i hi).2 Vv
   rw[hj,Int.toNat_natCast]
   exact b_ (first:=[]) (args:=[vN j,.bool g]) (fK:=[(du (aD z2) 0),(du (aD z8) 0)]) IX (Ql w1 eb ec e (hI.sl hE) z2 z8 (hI.sl h2) (hI.sl h8) ht f j (by omega) (by omega) g))
end Go.Proofs.YtgdbfideeeegmaaGreatDoor

namespace Go.Lx
open Go.RowKit Go.Proofs.YtgdbfideeeegmaaGreatDoor
theorem si {v b:Nat} {fs:List Nat} {x:dE} (hb: ∀j,j<fs.length→fs.getD j 0≤j) (h:fW v fs x=.ok b):
  b≤fs.length∧gi v x=0∧(cT x.op=1→0<fs.length∧x.a=(fs.length:Int)-1∧b=fs.getD (fs.length-1) 0)∧
  (cT x.op=2→0<fs.length∧x.b=(fs.length:Int)-1∧0<fs.getD (fs.length-1) 0∧x.a=(fs.getD (fs.length-1) 0:Int)-1∧b=fs.getD x.a.toNat 0)∧(cT x.op=0→b=fs.length):=by
 unfold fW at h
 split at h
 ·cases h
 ·rename_i h0
  have Xw:gi v x=0:=by omega
  split at h
  ·rename_i h1
   split at h
   ·cases h
   ·rename_i h2
    injection h with h
    have:=hb (fs.length-1) (by omega)
    exact⟨by omega,Xw,fun _=>⟨by omega,by omega,h.symm⟩,fun h9=>by omega,fun h9=>by omega⟩
  ·rename_i h1
   split at h
   ·rename_i h2
    split at h
    ·cases h
    ·rename_i h3
     injection h with h
     have h4:=hb (fs.length-1) (by omega)
     have h5:x.a.toNat<fs.length:=by omega
     have h6:=hb _ h5
     exact⟨by omega,Xw,fun h9=>by omega,fun _=>⟨by omega,by omega,by omega,by omega,h.symm⟩,fun h9=>by omega⟩
   ·injection h with h
    exact⟨by omega,Xw,fun h9=>by omega,fun h9=>by omega,fun _=>h.symm⟩
theorem L0 (n:Nat):cT n≤2:=by unfold cT;split<;>(try split)<;>omega
theorem nH {v:Nat} {e:List dE} {fs:List Nat} (h:iV v e=.ok fs): ∀i,i≤e.length→ ∃gs,iV v (e.take i)=.ok gs∧gs.length=i∧(∀j,j<i→gs.getD j 0≤j)∧gs=fs.take i
 |0,_=>⟨[],F,F,fun j hj=>by omega,by simp⟩
 |i+1,hi=>by
  obtain⟨gs,h1,h2,h3,h4⟩:=nH h i (by omega)
  have eU:i<e.length:=by omega
  cases hs:fW v gs e[i]with
  |error n=>rw[iF eU h1 hs]at h;cases h
  |ok b=>
   have hn:=pj eU h1 hs
   have hb:=si (by rw[h2];exact h3) hs
   refine⟨gs++[b],hn,by simp[h2],pO h2 h3 (by omega),?_⟩
   have hp: ∀(l:List dE) (a:List Nat) (c:List Nat),l.foldl (sg v) (.ok a)=.ok c→a<+:c:=by
    intro l
    induction l with
    |nil=>intro a c h;injection h with h;subst h;exact List.prefix_refl _
    |cons x l ih=>
     intro a c h
     rw[List.foldl_cons]at h
     cases hx:sg v (.ok a) x with
     |error n=>rw[hx,sh]at h;cases h
     |ok a2=>
      rw[hx]at h
      have h5:=ih a2 c h
      have h6:a<+:a2:=by
       unfold sg at hx
       cases hy:fW v a x with
       |error n=>simp only[hy]at hx;cases hx
       |ok b2=>simp only[hy]at hx;injection hx with hx;subst hx;exact List.prefix_append _ _
      exact h6.trans h5
   have h7:(gs++[b])<+:fs:=by
    have h8:iV v e=(e.drop (i+1)).foldl (sg v) (iV v (e.take (i+1))):=by
     conv=>lhs;rw[←List.take_append_drop (i+1) e]
     unfold iV;rw[List.foldl_append]
    rw[h8,hn]at h
    exact hp _ _ _ h
   have:=List.prefix_iff_eq_take.1 h7
   simpa[h2]using this
theorem oV {v:Nat} {e:List dE} {fs:List Nat} (h:iV v e=.ok fs):IW e:=fun i hi=>by
 obtain⟨gs,h1,h2,h3,_⟩:=nH h i (Nat.le_of_lt hi)
 cases hs:fW v gs e[i]with
 |error n=>rw[iF hi h1 hs]at h;cases h
 |ok b=>
  obtain⟨_,_,k1,k2,_⟩:=si (by rw[h2];exact h3) hs
  have hc:=L0 e[i].op
  refine⟨fun hh=>?_,fun hh=>?_⟩
  ·by_cases h5:cT e[i].op=1
   ·have:=k1 h5;exact⟨i-1,by omega,by omega⟩
   ·have:=k2 (by omega)
    have h6:=h3 (gs.length-1) (by omega)
    exact⟨gs.getD (gs.length-1) 0-1,by omega,by omega⟩
  ·have:=k2 (by omega);exact⟨i-1,by omega,by omega⟩
theorem zi {v n:Nat}: ∀ {e:List dE} {a:List Nat},e.foldl (sg v) (.ok a)=.error n→n≠0
 | [],a,h=>by cases h
 |x::e,a,h=>by
  rw[List.foldl_cons]at h
  cases hs:fW v a x with
  |error k=>
   have hk:sg v (.ok a) x=.error k:=by unfold sg;simp only[hs]
   rw[hk,sh]at h
   injection h with h
   subst h
   unfold fW at hs
   split at hs
   ·injection hs with hs;omega
   ·split at hs
    ·split at hs
     ·injection hs with hs;omega
     ·cases hs
    ·split at hs
     ·split at hs
      ·injection hs with hs;omega
      ·cases hs
     ·cases hs
  |ok b=>
   have hk:sg v (.ok a) x=.ok (a++[b]):=by unfold sg;simp only[hs]
   rw[hk]at h
   exact zi h
def jw (vars:Int) (e:List dE):Nat:=
 if vars<0∨6<vars then 7 else if e.length=0 then 3 else if 64<e.length then 4 else
  match iV vars.toNat e with
  | .error n=>n
  | .ok fs=>if fs.getD (e.length-1) 0≠0 then 2 else if lH e e.length (e.length-1) true=true then 0 else 2
end Go.Lx

namespace Go.Lx
open Go.RowKit
theorem F3: ∀ {l m:List Key},(∀k∈l,∀b∈k,b≠124)→(∀k∈m,∀b∈k,b≠124)→l.flatMap (fun k=>(124:UInt8)::k)=m.flatMap (fun k=>(124:UInt8)::k)→l=m:=by
 have split: ∀ {x y p q:Key},(∀b∈x,b≠124)→(∀b∈y,b≠124)→(∀b t,p=b::t→b=124)→(∀b t,q=b::t→b=124)→x++p=y++q→x=y∧p=q:=by
  intro x
  induction x with
  |nil=>
   intro y p q _ hy hp _ h
   cases y with
   |nil=>exact⟨F,h⟩
   |cons c y=>
    rw[List.nil_append,List.cons_append]at h
    exact absurd (hp _ _ h) (hy c (by simp))
  |cons c x ih=>
   intro y p q hx hy hp hq h
   cases y with
   |nil=>
    rw[List.nil_append,List.cons_append]at h
    exact absurd (hq _ _ h.symm) (hx c (by simp))
   |cons d y=>
    simp only[List.cons_append,List.cons.injEq]at h
    obtain⟨h1,h2⟩:=ih (fun b hb=>hx b (by simp[hb])) (fun b hb=>hy b (by simp[hb])) hp hq h.2
    exact⟨by rw[h.1,h1],h2⟩
 have hd: ∀(l:List Key) b t,l.flatMap (fun k=>(124:UInt8)::k)=b::t→b=124:=by
  intro l b t h
  cases l with
  |nil=>simp at h
  |cons k l=>simp only[List.flatMap_cons,List.cons_append,List.cons.injEq]at h;exact h.1.symm
 intro l
 induction l with
 |nil=>
  intro m _ _ h
  cases m with
  |nil=>rfl
  |cons k m=>simp at h
 |cons k l ih=>
  intro m hl hm h
  cases m with
  |nil=>simp at h
  |cons k2 m=>
   simp only[List.flatMap_cons,List.cons_append,List.cons.injEq,true_and]at h
   obtain⟨h1,h2⟩:=split (hl k (by simp)) (hm k2 (by simp)) (hd l) (hd m) h
   rw[h1,ih (fun x hx=>hl x (by simp[hx])) (fun x hx=>hm x (by simp[hx])) h2]
theorem F4 (l:List Int): ∀b∈gB l,b≠124:=fun b hb e=>by
 obtain⟨n,_,hb⟩:=List.mem_flatMap.1 hb
 rcases List.mem_append.1 hb with hb|hb
 ·have:=pQ n b hb;rw[e]at this;simp at this
 ·rw[List.mem_singleton.1 hb]at e;exact absurd e (by decide)
theorem ye (a b c:Key) (h1:uF a b=true) (h2:uF b c=true):uF a c=true:=by
 unfold uF at*;exact decide_eq_true (List.le_trans (of_decide_eq_true h1) (of_decide_eq_true h2))
theorem yf (a b:Key):(uF a b||uF b a)=true:=by
 unfold uF;rcases List.le_total a b with h|h<;>simp[h]
theorem BD {l m:List Key} (h:l.Perm m):l.mergeSort uF=m.mergeSort uF:=by
 refine List.Perm.eq_of_pairwise (le:=fun a b=>uF a b=true) (fun a b _ _ h1 h2=>?_) (List.pairwise_mergeSort ye yf l) (List.pairwise_mergeSort ye yf m) ?_
 ·unfold uF at h1 h2;exact List.le_antisymm (of_decide_eq_true h1) (of_decide_eq_true h2)
 ·exact(List.mergeSort_perm l uF).trans (h.trans (List.mergeSort_perm m uF).symm)
section
variable {ls:List Lf} {vs:Nat}
theorem n6.num (hG:gU ls vs) {bh:List Nat} (h:n6 ls bh): ∀n∈bh.map (fun y:Nat=>(y:Int)),lg n:=fun n hn=>by
 obtain⟨y,hy,rfl⟩:=List.mem_map.1 hn
 obtain⟨k,hk,rfl⟩:=List.mem_iff_getElem.1 hy
 have h1:=h.lt k (by rw[←h.len];exact hk)
 rw[List.getD_eq_getElem?_getD,List.getElem?_eq_getElem hk,Option.getD_some]at h1
 have:=(hG.iZ (k:=k) (by rw[←h.len];exact hk)).n4
 exact lP (by omega)
theorem BE (hG:gU ls vs) {a b:St} (ha:jL ls a) (hb:jL ls b) (h:a.key=b.key):a.bh=b.bh∧ ∀c,c∈a.cf↔c∈b.cf:=by
 unfold St.key at h
 have hd: ∀(l:List Key) b t,l.flatMap (fun k=>(124:UInt8)::k)=b::t→b.toNat=124:=by
  intro l b t h
  cases l with
  |nil=>simp at h
  |cons k l=>simp only[List.flatMap_cons,List.cons_append,List.cons.injEq]at h;rw[←h.1];rfl
 obtain⟨h1,h2⟩:=zq (ha.bh.num hG) (hb.bh.num hG) (hd _) (hd _) h
 have hn: ∀s:St,∀k∈(s.cf.map Cf.key).mergeSort uF,∀b∈k,b≠124:=fun s k hk=>by
  obtain⟨c,_,rfl⟩:=List.mem_map.1 (List.mem_mergeSort.1 hk)
  exact F4 _
 have h3:=F3 (hn a) (hn b) h2
 have h4: ∀k,k∈a.cf.map Cf.key↔k∈b.cf.map Cf.key:=fun k=>by
  rw[←List.mem_mergeSort (le:=uF),h3,List.mem_mergeSort]
 have one: ∀ {s t:St},jL ls s→jL ls t→(∀k,k∈s.cf.map Cf.key→k∈t.cf.map Cf.key)→ ∀c,c∈s.cf→c∈t.cf:=fun {s t} hs ht h c hc=>by
  obtain⟨d,hd,e⟩:=List.mem_map.1 (h _ (List.mem_map_of_mem hc))
  rw[key_inj hG (hs.cf c hc) (ht.cf d hd) e.symm];exact hd
 exact⟨pR h1,fun c=>⟨one ha hb (fun k=>(h4 k).1) c,one hb ha (fun k=>(h4 k).2) c⟩⟩
theorem Dm {a b:St} (ha:jL ls a) (hb:jL ls b) (h1:a.bh=b.bh) (h2: ∀c,c∈a.cf↔c∈b.cf):a.key=b.key:=by
 unfold St.key
 rw[h1,BD (((List.perm_ext_iff_of_nodup ha.nd hb.nd).2 h2).map Cf.key)]
theorem Et (hG:gU ls vs):LY (jL ls) St.key (lL ls) qL (2^vs):=by
 refine⟨fun a b x ha hb h hx=>?_,fun a b ha hb h=>?_,fun a x ha hx=>pN hG ha hx⟩
 ·obtain⟨h1,h2⟩:=BE hG ha hb h
  refine Dm (pN hG ha hx) (pN hG hb hx) (by show kY ls a.bh x=kY ls b.bh x;rw[h1]) fun c=>?_
  show c∈List.foldl add [] _↔c∈List.foldl add [] _
  rw[dj,dj,h1]
  simp only[List.mem_flatMap,List.not_mem_nil,false_or]
  exact⟨fun⟨y,hy,hc⟩=>⟨y,(h2 y).1 hy,hc⟩,fun⟨y,hy,hc⟩=>⟨y,(h2 y).2 hy,hc⟩⟩
 ·obtain⟨_,h2⟩:=BE hG ha hb h
  unfold qL
  rw[Bool.eq_iff_iff,List.any_eq_true,List.any_eq_true]
  exact⟨fun⟨c,hc,h⟩=>⟨c,(h2 c).1 hc,h⟩,fun⟨c,hc,h⟩=>⟨c,(h2 c).2 hc,h⟩⟩
end
end Go.Lx

namespace Go.Lx
open Go.RowKit
def Rx.wf:Rx→Bool
 | .kQ a b| .uE a b=>a.wf&&b.wf
 | .ahead a| .behind a=>a.plain
 |t=>t.plain
def lU (ls:List Lf) (b x:List Nat):List Lf:=b.foldl (fun ls k=>ls.set k {lf ls k with fo:=(lf ls k).fo++x}) ls
structure BR where
 ls:List Lf
 fi:List Nat
 la:List Nat
noncomputable def tQ (v:Nat):Rx→Lf
 | .ahead a=>⟨9,minOf v (nI (jz a) fun _=>true),[],false⟩
 | .behind a=>⟨10,minOf v (nI (fun _=>true) (jz a)),[],false⟩
 |t=>⟨0,minOf v (jz t),[],false⟩
noncomputable def aK (v:Nat):Rx→List Lf→BR
 | .kQ a b,ls=>⟨lU (aK v b (aK v a ls).ls).ls (aK v a ls).la (aK v b (aK v a ls).ls).fi,(aK v a ls).fi,(aK v b (aK v a ls).ls).la⟩
 | .uE a b,ls=>⟨(aK v b (aK v a ls).ls).ls,(aK v a ls).fi++(aK v b (aK v a ls).ls).fi,(aK v a ls).la++(aK v b (aK v a ls).ls).la⟩
 |t,ls=>⟨ls++[tQ v t],[ls.length],[ls.length]⟩
def okB (v:Nat):Rx→Nat→Prop
 | .kQ a b,B=>okB v a B∧okB v b B
 | .uE a b,B=>okB v a B∧okB v b B
 | .ahead a,B=>mx v a B∧yX (minOf v (jz a)) (fZ (v:Int) true) (cJ (minOf v (jz a))) B
 | .behind a,B=>mx v a B∧yX (fZ (v:Int) true) (minOf v (jz a)) (cJ (fZ (v:Int) true)) B
 |t,B=>mx v t B
def Rx.lv:Rx→Nat
 | .kQ a b| .uE a b=>a.lv+b.lv
 |_=>1
theorem sY: ∀(b x:List Nat) (ls:List Lf),(lU ls b x).length=ls.length
 | [],x,ls=>rfl
 |k::b,x,ls=>by
  show(lU (ls.set k _) b x).length=_
  rw[sY b x,List.length_set]
theorem eI (v:Nat): ∀(t:Rx) (ls:List Lf),(aK v t ls).ls.length=ls.length+t.lv
 | .kQ a b,ls=>by show(lU _ _ _).length=_;rw[sY,eI v b,eI v a,Nat.add_assoc];rfl
 | .uE a b,ls=>by show(aK v b _).ls.length=_;rw[eI v b,eI v a,Nat.add_assoc];rfl
 | .none,ls=>by simp[aK,Rx.lv]
 | .empty,ls=>by simp[aK,Rx.lv]
 | .letter p n,ls=>by simp[aK,Rx.lv]
 | .and a b,ls=>by simp[aK,Rx.lv]
 | .not a,ls=>by simp[aK,Rx.lv]
 | .star a,ls=>by simp[aK,Rx.lv]
 | .ahead a,ls=>by simp[aK,Rx.lv]
 | .behind a,ls=>by simp[aK,Rx.lv]
theorem fN (v:Nat): ∀(t:Rx) (ls:List Lf),(∀k∈(aK v t ls).fi,ls.length≤k∧k<ls.length+t.lv)∧(∀k∈(aK v t ls).la,ls.length≤k∧k<ls.length+t.lv)∧(aK v t ls).fi.length≤t.lv∧(aK v t ls).la.length≤t.lv
 | .kQ a b,ls=>by
  obtain⟨h1,_,h3,_⟩:=fN v a ls
  obtain⟨_,h2,_,h4⟩:=fN v b (aK v a ls).ls
  rw[eI]at h2
  refine⟨fun k hk=>?_,fun k hk=>?_,?_,?_⟩
  ·have:=h1 k hk;show _∧k<ls.length+(a.lv+b.lv);omega
  ·have:=h2 k hk;show _∧k<ls.length+(a.lv+b.lv);omega
  ·show(aK v a ls).fi.length≤a.lv+b.lv;omega
  ·show(aK v b (aK v a ls).ls).la.length≤a.lv+b.lv;omega
 | .uE a b,ls=>by
  obtain⟨h1,h5,h3,h6⟩:=fN v a ls
  obtain⟨h7,h2,h8,h4⟩:=fN v b (aK v a ls).ls
  rw[eI]at h2 h7
  refine⟨fun k hk=>?_,fun k hk=>?_,?_,?_⟩
  ·show _∧k<ls.length+(a.lv+b.lv)
   rcases List.mem_append.1 hk with hk|hk
   ·have:=h1 k hk;omega
   ·have:=h7 k hk;omega
  ·show _∧k<ls.length+(a.lv+b.lv)
   rcases List.mem_append.1 hk with hk|hk
   ·have:=h5 k hk;omega
   ·have:=h2 k hk;omega
  ·show(_++_:List Nat).length≤a.lv+b.lv;rw[List.length_append];omega
  ·show(_++_:List Nat).length≤a.lv+b.lv;rw[List.length_append];omega
 | .none,ls=>by simp[aK,Rx.lv]
 | .empty,ls=>by simp[aK,Rx.lv]
 | .letter p n,ls=>by simp[aK,Rx.lv]
 | .and a b,ls=>by simp[aK,Rx.lv]
 | .not a,ls=>by simp[aK,Rx.lv]
 | .star a,ls=>by simp[aK,Rx.lv]
 | .ahead a,ls=>by simp[aK,Rx.lv]
 | .behind a,ls=>by simp[aK,Rx.lv]
def ek (ls:List Lf) (ks:List LK):List Rec:=(ls.zip ks).map fun p=>⟨p.2.b,p.2.c,p.1.fo.map fun y:Nat=>(y:Int)⟩
def gr (II Bo I:TypeId) (ls:List Lf) (ks:List LK):List Item:=(ls.zip ks).map fun p=>dI II Bo I p.1.d p.2.k
theorem FU {ls:List Lf} {ks:List LK} (h:ks.length=ls.length):(ek ls ks).length=ls.length:=by unfold ek;rw[List.length_map,List.length_zip,h,Nat.min_self]
theorem I6 {ls:List Lf} {ks:List LK} (h:ks.length=ls.length) {k:Nat} (hk:k<ls.length):(ls.zip ks)[k]? =some (lf ls k,lk ks k):=by
 rw[List.getElem?_eq_getElem (by rw[List.length_zip];omega),List.getElem_zip,C_ hk]
 show some (ls[k],ks[k]'_)=some (ls[k],ks.getD k default)
 rw[List.getD_eq_getElem?_getD,List.getElem?_eq_getElem (by omega)];rfl
theorem Bs {ls:List Lf} {ks:List LK} (h:ks.length=ls.length) {k:Nat} (hk:k<ls.length):(ek ls ks)[k]? =some ⟨(lk ks k).b,(lk ks k).c,(lf ls k).fo.map fun y:Nat=>(y:Int)⟩:=by
 unfold ek;rw[List.getElem?_map,I6 h hk];rfl
theorem wi {ls:List Lf} {ks:List LK} (h:ks.length=ls.length) (l:Lf) (k:LK):ek (ls++[l]) (ks++[k])=ek ls ks++[⟨k.b,k.c,l.fo.map fun y:Nat=>(y:Int)⟩]:=by
 unfold ek;rw[List.zip_append h.symm,List.map_append];rfl
theorem x8 {II Bo I:TypeId} {ls:List Lf} {ks:List LK} (h:ks.length=ls.length) (l:Lf) (k:LK):gr II Bo I (ls++[l]) (ks++[k])=gr II Bo I ls ks++[dI II Bo I l.d k.k]:=by
 unfold gr;rw[List.zip_append h.symm,List.map_append];rfl
theorem tN {ls:List Lf} {ks:List LK} (h:ks.length=ls.length) (l:Lf) (k:LK):cI (ls++[l]) (ks++[k])=cI ls ks++js l k:=by
 unfold cI;rw[List.zip_append h.symm,List.flatMap_append];simp
theorem Dg: ∀ {ls:List Lf} {ks:List LK} {k:Nat} (hk:ks.length=ls.length) (h:k<ls.length) (b':Option Addr) (c':Nat) (x:List Nat),
  cI (ls.set k {lf ls k with fo:=x}) (ks.set k {lk ks k with b:=b',c:=c'})=(cI ls ks).set (k*7+5) (.slice b' x.length c'):=by
 intro ls
 induction ls with
 |nil=>intro ks k _ h;simp at h
 |cons l ls ih=>
  intro ks k hk h b' c' x
  cases ks with
  |nil=>simp at hk
  |cons q ks=>
   cases k with
   |zero=>rfl
   |succ k=>
    show js l q++cI (ls.set k {lf ls k with fo:=x}) (ks.set k {lk ks k with b:=b',c:=c'})=(js l q++cI ls ks).set ((k+1)*7+5) _
    have h7:(js l q).length=7:=rfl
    rw[ih (by simpa using hk) (by simpa using h),List.set_append_right _ _ (by rw[h7];omega),show(k+1)*7+5-(js l q).length=k*7+5 by rw[h7];omega]
theorem FT: ∀ {ls:List Lf} {ks:List LK} {k:Nat} (hk:ks.length=ls.length) (h:k<ls.length) (b':Option Addr) (c':Nat) (x:List Nat),
  ek (ls.set k {lf ls k with fo:=x}) (ks.set k {lk ks k with b:=b',c:=c'})=(ek ls ks).set k ⟨b',c',x.map fun y:Nat=>(y:Int)⟩:=by
 intro ls
 induction ls with
 |nil=>intro ks k _ h;simp at h
 |cons l ls ih=>
  intro ks k hk h b' c' x
  cases ks with
  |nil=>simp at hk
  |cons q ks=>
   cases k with
   |zero=>rfl
   |succ k=>
    show(⟨q.b,q.c,_⟩:Rec)::ek (ls.set k {lf ls k with fo:=x}) (ks.set k {lk ks k with b:=b',c:=c'})=(_::ek ls ks).set (k+1) _
    rw[ih (by simpa using hk) (by simpa using h)];rfl
theorem IQ {II Bo I:TypeId}: ∀ {ls:List Lf} {ks:List LK} {k:Nat} (hk:ks.length=ls.length) (h:k<ls.length) (b':Option Addr) (c':Nat) (x:List Nat),
  gr II Bo I (ls.set k {lf ls k with fo:=x}) (ks.set k {lk ks k with b:=b',c:=c'})=gr II Bo I ls ks:=by
 intro ls
 induction ls with
 |nil=>intro ks k _ h;simp at h
 |cons l ls ih=>
  intro ks k hk h b' c' x
  cases ks with
  |nil=>simp at hk
  |cons q ks=>
   cases k with
   |zero=>rfl
   |succ k=>
    show dI II Bo I l.d q.k::gr II Bo I (ls.set k {lf ls k with fo:=x}) (ks.set k {lk ks k with b:=b',c:=c'})=dI II Bo I l.d q.k::gr II Bo I ls ks
    rw[ih (by simpa using hk) (by simpa using h)]
theorem Bt: ∀ {ls:List Lf} {ks:List LK} {k:Nat} (hk:ks.length=ls.length) (h:k<ls.length),
  cI (ls.set k {lf ls k with la:=true}) ks=(cI ls ks).set (k*7+6) (.bool true):=by
 intro ls
 induction ls with
 |nil=>intro ks k _ h;simp at h
 |cons l ls ih=>
  intro ks k hk h
  cases ks with
  |nil=>simp at hk
  |cons q ks=>
   cases k with
   |zero=>rfl
   |succ k=>
    show js l q++cI (ls.set k {lf ls k with la:=true}) ks=(js l q++cI ls ks).set ((k+1)*7+6) _
    have h7:(js l q).length=7:=rfl
    rw[ih (by simpa using hk) (by simpa using h),List.set_append_right _ _ (by rw[h7];omega),show(k+1)*7+6-(js l q).length=k*7+6 by rw[h7];omega]
theorem Di: ∀ {ls:List Lf} {ks:List LK} {k:Nat} (hk:ks.length=ls.length) (h:k<ls.length),ek (ls.set k {lf ls k with la:=true}) ks=ek ls ks:=by
 intro ls
 induction ls with
 |nil=>intro ks k _ h;simp at h
 |cons l ls ih=>
  intro ks k hk h
  cases ks with
  |nil=>simp at hk
  |cons q ks=>
   cases k with
   |zero=>rfl
   |succ k=>
    show(⟨q.b,q.c,_⟩:Rec)::ek (ls.set k {lf ls k with la:=true}) ks=_::ek ls ks
    rw[ih (by simpa using hk) (by simpa using h)]
theorem FW {II Bo I:TypeId}: ∀ {ls:List Lf} {ks:List LK} {k:Nat} (hk:ks.length=ls.length) (h:k<ls.length),gr II Bo I (ls.set k {lf ls k with la:=true}) ks=gr II Bo I ls ks:=by
 intro ls
 induction ls with
 |nil=>intro ks k _ h;simp at h
 |cons l ls ih=>
  intro ks k hk h
  cases ks with
  |nil=>simp at hk
  |cons q ks=>
   cases k with
   |zero=>rfl
   |succ k=>
    show dI II Bo I l.d q.k::gr II Bo I (ls.set k {lf ls k with la:=true}) ks=dI II Bo I l.d q.k::gr II Bo I ls ks
    rw[ih (by simpa using hk) (by simpa using h)]
theorem Dh {ls:List Lf} {b x:List Nat} {i:Nat} (h:i<b.length):lU ls (b.take (i+1)) x=(lU ls (b.take i) x).set b[i] {lf (lU ls (b.take i) x) b[i]with fo:=(lf (lU ls (b.take i) x) b[i]).fo++x}:=by
 unfold lU;rw[List.take_succ_eq_append_getElem h,List.foldl_append];rfl
theorem s4 {E:TypeId}: ∀ {qs:List Rec} {c:Nat} (h:c<qs.length),(bl E qs).Perm (qs[c].lZ E::bl E (qs.eraseIdx c))
 |q::qs,0,_=>by simp
 |q::qs,c+1,h=>by
  have ih:=s4 (E:=E) (qs:=qs) (c:=c) (by simpa using h)
  simp only[bl,List.map_cons,List.eraseIdx_cons_succ,List.getElem_cons_succ]at ih⊢
  exact(ih.cons _).trans (List.Perm.swap _ _ _)
theorem IP {E:TypeId} {qs:List Rec} {c:Nat} {q:Rec} (h:qs[c]? =some q) (X Y:List Item):Sub (q.lZ E::(X++(bl E (qs.eraseIdx c)++Y))) (X++(bl E qs++Y)):=by
 obtain⟨hc,rfl⟩:=List.getElem?_eq_some_iff.1 h
 refine⟨X++(bl E qs++Y),?_,List.Sublist.refl _⟩
 refine((List.perm_middle (a:=qs[c].lZ E) (l₁:=X)).symm).trans (List.Perm.append_left X ?_)
 exact((s4 hc).symm.append_right Y)
theorem LN {E:TypeId} {qs:List Rec} {c:Nat} (h:c<qs.length) (X Y:List Item) (q:Rec):Sub (X++(bl E (qs.set c q)++Y)) (q.lZ E::(X++(bl E (qs.eraseIdx c)++Y))):=by
 have h1:=s4 (E:=E) (qs:=qs.set c q) (c:=c) (by simpa using h)
 rw[List.getElem_set_self,List.eraseIdx_set_eq]at h1
 refine⟨_,?_,List.Sublist.refl _⟩
 exact((h1.append_right Y).append_left X).trans (List.perm_middle (a:=q.lZ E) (l₁:=X))
theorem dq.post {P:Program} {base:World} {tm:Value} {f:FuncId} {args:List Value} {O:List Item} {R R':Value→List Item→Prop} {Z:Prop} (h:dq P base tm f args O R Z) (hr: ∀v O',R v O'→ ∃O2,Sub O2 O'∧R' v O2):dq P base tm f args O R' Z:=fun w M hI=>
 (h w M hI).mono fun e w' h9=>h9.imp (fun⟨v,O',he,mh,hv⟩=>by
  obtain⟨O2,hs,h2⟩:=hr v O' hv
  exact⟨v,O2,he,mh.jf hs.sw,h2⟩) id
theorem tO (A B X Y:List Item) (c d:Item) (h:Sub (A++[c,d]) B):Sub (A++((X++[c])++(Y++[d]))) (B++(X++Y)):=by
 obtain⟨l,h1,h2⟩:=h
 refine⟨l++(X++Y),?_,h2.append (List.Sublist.refl _)⟩
 refine List.Perm.trans ?_ (h1.append_right (X++Y))
 rw[List.append_assoc A]
 refine List.Perm.append_left A ?_
 rw[List.append_assoc X]
 refine(List.perm_append_comm_assoc X [c] (Y++[d])).trans ?_
 show(c::(X++(Y++[d]))).Perm (c::d::(X++Y))
 refine List.Perm.cons c ?_
 rw[←List.append_assoc]
 exact List.perm_append_comm
theorem wj (E:TypeId) (qs:List Rec) (q:Rec):bl E (qs++[q])=bl E qs++[q.lZ E]:=List.map_append
theorem wo: ∀(b x:List Nat) (ls:List Lf) (M:Nat),(∀l∈ls,l.fo.length≤M)→ ∀l∈lU ls b x,l.fo.length≤M+b.length*x.length
 | [],x,ls,M,h,l,hl=>by have:=h l hl;simpa using this
 |k::b,x,ls,M,h,l,hl=>by
  have h2: ∀l∈ls.set k {lf ls k with fo:=(lf ls k).fo++x},l.fo.length≤M+x.length:=fun l hl=>by
   by_cases hk:k<ls.length
   ·rcases List.mem_or_eq_of_mem_set hl with hl|rfl
    ·have:=h l hl;omega
    ·have:=h _ (jj hk);rw[List.length_append];omega
   ·rw[List.set_eq_of_length_le (by omega)]at hl;have:=h l hl;omega
  have:=wo b x _ _ h2 l hl
  rw[List.length_cons,Nat.succ_mul];omega
theorem wq (a b:Nat):(a+b)*(a+b)=a*a+b*b+2*(a*b):=by
 rw[Nat.add_mul,Nat.mul_add,Nat.mul_add,Nat.mul_comm b a];omega
theorem pP (v:Nat): ∀(t:Rx) (ls:List Lf) (N:Nat),(∀l∈ls,l.fo.length≤N)→ ∀l∈(aK v t ls).ls,l.fo.length≤N+t.lv*t.lv:=by
 have leaf: ∀(ls:List Lf) (N:Nat) (q:Lf),q.fo=[]→(∀l∈ls,l.fo.length≤N)→ ∀l∈ls++[q],l.fo.length≤N+1*1:=fun ls N q hq h l hl=>by
  rcases List.mem_append.1 hl with hl|hl
  ·have:=h l hl;omega
  ·rw[List.mem_singleton.1 hl,hq];exact Nat.zero_le _
 intro t
 induction t with
 |kQ a b QB QC=>
  intro ls N h l hl
  have h1:=QC _ _ (QB ls N h)
  have h2:=wo _ (aK v b (aK v a ls).ls).fi _ _ h1 l hl
  have h3:=(fN v a ls).2.2.2
  have h4:=(fN v b (aK v a ls).ls).2.2.1
  have h5:(aK v a ls).la.length*(aK v b (aK v a ls).ls).fi.length≤a.lv*b.lv:=Nat.mul_le_mul h3 h4
  show _≤N+(a.lv+b.lv)*(a.lv+b.lv)
  rw[wq];omega
 |uE a b QB QC=>
  intro ls N h l hl
  have h1:=QC _ _ (QB ls N h) l hl
  show _≤N+(a.lv+b.lv)*(a.lv+b.lv)
  rw[wq];omega
 |none=>exact fun ls N h=>leaf ls N _ F h
 |empty=>exact fun ls N h=>leaf ls N _ F h
 |letter p n=>exact fun ls N h=>leaf ls N _ F h
 |and a b _ _=>exact fun ls N h=>leaf ls N _ F h
 |not a _=>exact fun ls N h=>leaf ls N _ F h
 |star a _=>exact fun ls N h=>leaf ls N _ F h
 |ahead a _=>exact fun ls N h=>leaf ls N _ F h
 |behind a _=>exact fun ls N h=>leaf ls N _ F h
def y_ (ls:List Lf) (t:Rx):Prop:= ∃N,(∀l∈ls,l.fo.length≤N)∧N+t.lv*t.lv≤100000
theorem y_.left {ls:List Lf} {a b:Rx} (h: ∃N,(∀l∈ls,l.fo.length≤N)∧N+(a.lv+b.lv)*(a.lv+b.lv)≤100000):y_ ls a:=by
 obtain⟨N,h1,h2⟩:=h;rw[wq]at h2;exact⟨N,h1,by omega⟩
theorem zg {v:Nat} {ls:List Lf} {a b:Rx} (h: ∃N,(∀l∈ls,l.fo.length≤N)∧N+(a.lv+b.lv)*(a.lv+b.lv)≤100000):y_ (aK v a ls).ls b:=by
 obtain⟨N,h1,h2⟩:=h;rw[wq]at h2;exact⟨_,pP v a ls N h1,by omega⟩
theorem Df {v:Nat} {ls:List Lf} {a b:Rx} (h: ∃N,(∀l∈ls,l.fo.length≤N)∧N+(a.lv+b.lv)*(a.lv+b.lv)≤100000) {y:List Nat} (hy:y.length≤a.lv) {k:Nat} (hk:k<(lU (aK v b (aK v a ls).ls).ls y (aK v b (aK v a ls).ls).fi).length):(lf (lU (aK v b (aK v a ls).ls).ls y (aK v b (aK v a ls).ls).fi) k).fo.length≤100000:=by
 obtain⟨N,h1,h2⟩:=h
 rw[wq]at h2
 have h3:=wo y (aK v b (aK v a ls).ls).fi _ _ (pP v b _ _ (pP v a ls N h1)) _ (jj hk)
 have h4:=(fN v b (aK v a ls).ls).2.2.1
 have h5:y.length*(aK v b (aK v a ls).ls).fi.length≤a.lv*b.lv:=Nat.mul_le_mul hy h4
 omega
end Go.Lx


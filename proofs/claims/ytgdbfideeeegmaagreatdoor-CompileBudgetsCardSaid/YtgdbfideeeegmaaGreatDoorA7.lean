/- Contracts of functions of the program, and what they answer. Conditions: those each theorem names. -/
import Derived.Test.YtgdbfideeeegmaaGreatDoorA2
import Derived.Test.YtgdbfideeeegmaaGreatDoorA6
import Derived.Test.YtgdbfideeeegmaaGreatDoorA5
import Derived.Shelf.Slices.Clone
import Derived.Lib.RowBridge
import Derived.Test.YtgdbfideeeegmaaGreatDoorProg
set_option linter.unusedSectionVars false
set_option linter.unusedSimpArgs false
set_option linter.unusedVariables false
set_option linter.unnecessarySimpa false
set_option maxHeartbeats 8000000
set_option maxRecDepth 20000
namespace Go.Proofs.YtgdbfideeeegmaaGreatDoor
open Go.Lx Go.RowKit _root_.Go.Proofs.Tryz
theorem XX (w:World) [cG Tryz.prog w] (d:bU) (k:DK) (h:At w d k) (hb:d.next.length<9223372036854775807) (rQ: ∀r∈d.next,r.length<9223372036854775807) (tN:d.ax.length<9223372036854775807) (hn:Valid d→d.next.length<10000):
  bI Tryz.prog 23 [dV d k] w fun v N=> ∃k':DK,v=.tuple #[dV (zl d) k',vI (cE d:Int)]∧N=[dI 56 4 3 (zl d) k']:=
 bm.dk (g:=fun x=>.tuple #[x,vI (cE d:Int)]) (XY w d k.nb k.fb k.nc k.fc (bO k.qs) h hb rQ tN hn)
theorem xp (w:World) [cG Tryz.prog w] (d:bU) (k:DK) (h:At w d k) (hv:Valid d) (hn:d.next.length<10000) {M:bU} (hM:gJ d=M):
  bI Tryz.prog 23 [dV d k] w fun v N=> ∃k':DK,v=.tuple #[dV M k',vI 0]∧N=[dI 56 4 3 M k']:=by
 have h1:=XX w d k h (by have:=hv.n4;omega) hv.uA (by have:=hv.fin;have:=hv.n4;omega) (fun _=>hn)
 rw[Dh hv,hM,dq.2 hv]at h1
 exact h1
theorem XZ (base:World) (x y:Bool):bm Tryz.prog base 139 [.bool x,.bool y] [] (fun v O'=>v=.bool (nU x y)∧O'=[]):=by
 refine aw func139 F ntmps139 F ?_
 refine ai (aj F (ae (ai (ah F (ad (gy F) (aj F (ae (aA ?_))))))))
 refine aE (.bool (!x)) Tryz.results139 F ?_
 cases x<;>cases y<;>first|exact⟨F,F⟩|(exfalso;simp_all;done)|simp_all[pX,B1,Gz,uw,nU]
set_option maxRecDepth 20000 in
theorem UT (base:World) (x y:Bool):dn Tryz.prog base (.func (.func 139) #[] #[]) [.bool x,.bool y] [] (fun v O'=>v=.bool (nU x y)∧O'=[]):=bQ (first:=[]) (eY:=[]) QE (XZ base x y)
theorem X0 (base:World) (x y:Bool):bm Tryz.prog base 152 [.bool x,.bool y] [] (fun v O'=>v=.bool (pX x y)∧O'=[]):=by
 refine aw func152 F ntmps152 F ?_
 refine ai (aj F (ae (ai (ah F ?_))))
 by_cases UU:x=true
 ·refine ad (aq (az F) (UU)) ?_
  refine au F F (az F) (ad (bu F F) (aj F (ae (aA ?_))))
  refine aE (.bool y) Tryz.results152 F ?_
  cases x<;>cases y<;>first|exact⟨F,F⟩|(exfalso;simp_all;done)|simp_all[pX,B1,Gz,uw,nU]
 refine ad (aq (az F) (Bool.eq_false_iff.2 UU)) (aF F F (ad (bl F F) (aj F (ae (aA ?_)))))
 refine aE (.bool false) Tryz.results152 F ?_
 cases x<;>cases y<;>first|exact⟨F,F⟩|(exfalso;simp_all;done)|simp_all[pX,B1,Gz,uw,nU]
set_option maxRecDepth 20000 in
theorem Tw (base:World) (x y:Bool):dn Tryz.prog base (.func (.func 152) #[] #[]) [.bool x,.bool y] [] (fun v O'=>v=.bool (pX x y)∧O'=[]):=bQ (first:=[]) (eY:=[]) QG (X0 base x y)
theorem orF (base:World) (x y:Bool):bm Tryz.prog base 151 [.bool x,.bool y] [] (fun v O'=>v=.bool (B1 x y)∧O'=[]):=by
 refine aw func151 F ntmps151 F ?_
 refine ai (aj F (ae (ai (ah F ?_))))
 by_cases UU:x=true
 ·refine ad (aq (az F) (UU)) ?_
  refine aF F F (ad (bu F F) (aj F (ae (aA ?_))))
  refine aE (.bool true) Tryz.results151 F ?_
  cases x<;>cases y<;>first|exact⟨F,F⟩|(exfalso;simp_all;done)|simp_all[pX,B1,Gz,uw,nU]
 refine ad (aq (az F) (Bool.eq_false_iff.2 UU)) (au F F (az F) (ad (bl F F) (aj F (ae (aA ?_)))))
 refine aE (.bool y) Tryz.results151 F ?_
 cases x<;>cases y<;>first|exact⟨F,F⟩|(exfalso;simp_all;done)|simp_all[pX,B1,Gz,uw,nU]
set_option maxRecDepth 20000 in
theorem WW (base:World) (x y:Bool):dn Tryz.prog base (.func (.func 151) #[] #[]) [.bool x,.bool y] [] (fun v O'=>v=.bool (B1 x y)∧O'=[]):=bQ (first:=[]) (eY:=[]) QF (orF base x y)
theorem Di (w:World) [cG Tryz.prog w] (a b:bU) (j k:DK) (ha:At w a j) (hb:At w b k) (Kr:a.next.length<9223372036854775807) (wI: ∀r∈a.next,r.length<9223372036854775807) (wJ:a.ax.length<9223372036854775807) (Qk:b.next.length<9223372036854775807) (JT: ∀r∈b.next,r.length<9223372036854775807) (JU:b.ax.length<9223372036854775807) (g:Nat) (he:fA a b≠0):
  bI Tryz.prog 138 [dV a j,dV b k,.func (.func g) #[] #[]] w fun v N=>v=.tuple #[dV zv ⟨none,0,none,0,[]⟩,vI (fA a b:Int)]∧N=[]:=by
 refine aw func138 F ntmps138 F ?_
 refine ai (ak F (cH (cs:=(dC a j)) F F (fun lX=>?_)))
 refine ak F (cH (cs:=(dC b k)) F F (fun vd=>?_))
 refine ak F (cH (cs:=[(.func (.func g) #[] #[])]) F F (fun Ip=>?_))
 refine ak F (aR aY F (fun bx4=>?_))
 refine ak F (aR gB F (fun bx5=>?_))
 refine ae (ai (ad (dh 4 bW F aY F F F) (ad (dh 3 bW F aY F F F) (ak F (aP C1 (aI fun w1 hI=>(haveI:=di hI;JS w1 a b j k (hI.nN ha) (hI.nN hb) Kr wI wJ Qk JT JU he)) F ?_)))))
 rintro vr O' ⟨N,rfl,rfl,rfl⟩
 refine ah F (ad (aV (vs:=_) F F) (ad (aV (vs:=_) F F) (ak F (aR sF F (fun bx6=>?_)))))
 refine ak F (a8 (vs:=[(.pointer none)]) 0 sF F F F F ?_)
 refine aj F (ae (aB (ai (ah F (ad (cT F F) (ae ?_))))))
 refine bj (congrArg Value.bool (decide_eq_true (by omega))) ?_
 refine ai (ad (bG gD aY F) (ah F (ak F (a8 (vs:=[(vI 0),(vI 0),nS,nS]) 2 aY F F F F ?_))))
 refine ak F (a8 (vs:=[(vI (fA a b:Int))]) 1 gB F F F F ?_)
 refine ae (aA (ap ?_))
 refine ga (i:=2) (j:=1) Tryz.results138 bW F aY mr F F F F F F ?_
 exact⟨[],Sub.z,F,F⟩
theorem AP (w:World) [cG Tryz.prog w] (a b:bU) (j k:DK) (ha:At w a j) (hb:At w b k) (va:Valid a) (vb:Valid b) (hv:a.vars=b.vars) (f:Bool→Bool→Bool) (g:Nat) (hf: ∀(base:World) (x y:Bool),dn Tryz.prog base (.func (.func g) #[] #[]) [.bool x,.bool y] [] (fun v O'=>v=.bool (f x y)∧O'=[])) (X1:(order (aU f a b)).length≤4096):
  bI Tryz.prog 138 [dV a j,dV b k,.func (.func g) #[] #[]] w fun v N=> ∃k':DK,v=.tuple #[dV (rV f a b) k',vI 0]∧N=[dI 56 4 3 (rV f a b) k']:=by
 refine aw func138 F ntmps138 F ?_
 have h4:a.next.length*b.next.length≤4096*4096:=Nat.mul_le_mul va.n4 vb.n4
 obtain⟨L,hL⟩: ∃L,2^a.vars.toNat=L:=⟨_,F⟩
 have hw:L≤64:=by rw[←hL];exact va.width
 refine ai (ak F (cH (cs:=(dC a j)) F F (fun z1=>?_)))
 refine ak F (cH (cs:=(dC b k)) F F (fun z2=>?_))
 refine ak F (cH (cs:=[(.func (.func g) #[] #[])]) F F (fun z3=>?_))
 refine ak F (aR aY F (fun z4=>?_))
 refine ak F (aR gB F (fun z5=>?_))
 refine ae (ai (ad (dh 4 bW F aY F F F) (ad (dh 3 bW F aY F F F) (ak F (aP C1 (aI fun w1 hI=>(haveI:=di hI;EP w1 a b j k (hI.nN ha) (hI.nN hb) va vb hv)) F ?_)))))
 rintro vr O' ⟨N,rfl,bp,qb,m,rfl,rfl⟩
 refine ah F (ad (aV (vs:=_) F F) (ad (aV (vs:=_) F F) (ak F (aR sF F (fun z6=>?_)))))
 refine ak F (a8 (vs:=[(.pointer (aD bp))]) 0 sF F F F F ?_)
 refine aj F (ae (aB (ai (ah F (ad (cT F F) (ae (aL F (av (ai (ad (aN bW F aO F F) (ad (aQ 8 cS F F F F) (ad (bG (cs:=[(vI a.vars),(vI 0),nS,nS]) gD aY (by kernel_rfl)) (ak F (aR aY F (fun z7=>?_)))))))))))))))
 refine ak F (a8 (vs:=[(vI a.vars),(vI 0),nS,nS]) 0 aY F F F F ?_)
 refine ae (aB (aB (T.dJ 4 1 ?_)))
 refine T.dJ 56 1 ?_
 refine aJ (ad (aQ 3 pT F F F F) (ak F (aP I9 (aI fun w1 hI=>(haveI:=di hI;JV w1 bp)) F ?_)))
 rintro vr O' ⟨N,rfl,bP,rfl,rfl⟩
 refine ae (aG ?_)
 refine T.rangeFunc (first:=[]) (eY:=[(.pointer (aD bP))]) F I_ (fun yl yq QU=>?_)
 refine bm.mono (bm.sub (O':=oI bP 227 [(.pointer (aD bp))]::oI bp 238 [(vI a.vars),(vI a.start),(.slice j.nb a.next.length j.nc),(.slice j.fb a.ax.length j.fc),(vI b.vars),(vI b.start),(.slice k.nb b.next.length k.nc),(.slice k.fb b.ax.length k.fc),(.slice (aD qb) ([a.start.toNat*b.next.length+b.start.toNat].length) 1),(.map (some m))]::am (aD qb) 1 234 2 (jM b.next.length [a.start.toNat*b.next.length+b.start.toNat])::cm dv (fun n:Nat=>Value.int .i64 (n:Int)) m (pmap b.next.length [a.start.toNat*b.next.length+b.start.toNat])::(cR yl (lp yq none)::[am none 0 56 1 (bO []),am none 0 4 1 (bf []),oI z7 25 [(vI a.vars),(vI 0),nS,nS],oI z6 227 [(.pointer (aD bp))],oI z5 27 [(vI 0)],oI z4 25 [(vI 0),(vI 0),nS,nS],oI z3 197 [(.func (.func g) #[] #[])],oI z2 25 (dC b k),oI z1 25 (dC a j)])) (ar [1,5,5,5,0,0,0,0,0,0,0,0,0,0] F) (JY w f a b j k ha hb va vb hv L hL bP bp m (aD qb) 1 (.func (.yield yl) #[] #[]) (fun i O=> ∃(rN pF:Option Addr) (rO pG n1 n2:Nat) (qs:List Rec) (fs:List Bool),O=cR yl (lp yq none)::([am rN rO 56 1 (bO qs),am pF pG 4 1 (bf fs),oI z7 25 [(vI a.vars),(vI 0),(.slice rN n1 rO),(.slice pF n2 pG)],oI z6 227 [(.pointer (aD bp))],oI z5 27 [(vI 0)],oI z4 25 [(vI 0),(vI 0),nS,nS],oI z3 197 [(.func (.func g) #[] #[])],oI z2 25 (dC b k),oI z1 25 (dC a j)]++(a_ 3 qs))∧n1=i∧n2=i∧qs.length=i∧fs.length=i∧nums qs=((order (aU f a b)).take i).map (pH (aU f a b))∧fs=((order (aU f a b)).take i).map (cF (aU f a b))) (fun _=>False) ?_ _ ?_)) ?_
 ·intro i o qb qc rb O hq hJ
  obtain⟨rN,pF,rO,pG,n1,n2,qs,fs,rfl,X2,X3,DG,pP,xq,kY⟩:=hJ
  refine dn.yield QU F F ?_
  refine ck (O':=([am rN rO 56 1 (bO qs),am pF pG 4 1 (bf fs),oI z7 25 [(vI a.vars),(vI 0),(.slice rN n1 rO),(.slice pF n2 pG)],oI z6 227 [(.pointer (aD bp))],oI z5 27 [(vI 0)],oI z4 25 [(vI 0),(vI 0),nS,nS],oI z3 197 [(.func (.func g) #[] #[])],oI z2 25 (dC b k),oI z1 25 (dC a j),oI bp 238 [(vI a.vars),(vI a.start),(.slice j.nb a.next.length j.nc),(.slice j.fb a.ax.length j.fc),(vI b.vars),(vI b.start),(.slice k.nb b.next.length k.nc),(.slice k.fb b.ax.length k.fc),(.slice qb ((b_ (aU f a b) (i+1)).length) qc),(.map (some m))],am qb qc 234 2 (jM b.next.length (b_ (aU f a b) (i+1))),cm dv (fun n:Nat=>Value.int .i64 (n:Int)) m (pmap b.next.length (b_ (aU f a b) (i+1))),am (aD rb) L 3 1 (ints (pH (aU f a b) o))]++a_ 3 qs)) (by exact eW [am rN rO 56 1 (bO qs),am pF pG 4 1 (bf fs),oI z7 25 [(vI a.vars),(vI 0),(.slice rN n1 rO),(.slice pF n2 pG)],oI z6 227 [(.pointer (aD bp))],oI z5 27 [(vI 0)],oI z4 25 [(vI 0),(vI 0),nS,nS],oI z3 197 [(.func (.func g) #[] #[])],oI z2 25 (dC b k),oI z1 25 (dC a j)] _ (a_ 3 qs)) ?_
  have Qh:=iO (f:=f) va vb hv i
  have Vy:=(List.getElem?_eq_some_iff.1 hq).1
  have ho:=(iV (f:=f) va vb hv i).2 o (List.mem_of_getElem? hq)
  obtain⟨hs,ht⟩:=l8 ho
  have UV:=GJ hq (by rw[gY];omega)
  have VG:(bf a.ax)[o/b.next.length]? =some (.bool (cF a (o/b.next.length))):=by
   have hl:o/b.next.length<a.ax.length:=by rw[va.fin];exact hs
   rw[fY hl];unfold cF;rw[List.getD_eq_getElem?_getD,List.getElem?_eq_getElem hl];rfl
  have vx:(bf b.ax)[o%b.next.length]? =some (.bool (cF b (o%b.next.length))):=by
   have hl:o%b.next.length<b.ax.length:=by rw[vb.fin];exact ht
   rw[fY hl];unfold cF;rw[List.getD_eq_getElem?_getD,List.getElem?_eq_getElem hl];rfl
  have E8:(pH (aU f a b) o).length=L:=by unfold pH;rw[List.length_map,lZ];exact hL
  have X4:bO (qs++[⟨some ⟨rb,0,none⟩,L,pH (aU f a b) o⟩])=bO qs++[.slice (aD rb) L L]:=by simp[Rec.val,E8]
  have X5:bf (fs++[f (cF a (o/b.next.length)) (cF b (o%b.next.length))])=bf fs++[.bool (f (cF a (o/b.next.length)) (cF b (o%b.next.length)))]:=by simp
  have X6:=iO (f:=f) va vb hv (i+1)
  have iS:(b_ (aU f a b) (i+1)).length≤4096:=Nat.le_trans (gZ (aU f a b) (i+1) (aU f a b).next.length (by rw[gY];omega)).length_le X1
  refine ai (ak F (aR fH F (fun z8=>?_)))
  refine ak F (a8 (vs:=[vN (o/b.next.length),vN (o%b.next.length)]) 0 fH F F F F ?_)
  refine ae (aJ (aj F (ae (aG (aB (ai (ad (aQ 4 pT F F F F) (ad (aK F) (ad (aN mJ F np F F) (ad (aQ 10 ku F F F F) (ad (bS ku F) (ad (aq (fW F F) (decide_eq_false (by omega))) (ae (aL F (av ?_)))))))))))))))
  refine T.ds [oI z8 234 [vN (o/b.next.length),vN (o%b.next.length)],oI z7 25 [(vI a.vars),(vI 0),(.slice rN n1 rO),(.slice pF n2 pG)],oI z6 227 [(.pointer (aD bp))],oI z5 27 [(vI 0)],oI z4 25 [(vI 0),(vI 0),nS,nS],oI z3 197 [(.func (.func g) #[] #[])],oI z2 25 (dC b k),oI z1 25 (dC a j),oI bp 238 [(vI a.vars),(vI a.start),(.slice j.nb a.next.length j.nc),(.slice j.fb a.ax.length j.fc),(vI b.vars),(vI b.start),(.slice k.nb b.next.length k.nc),(.slice k.fb b.ax.length k.fc),(.slice qb ((b_ (aU f a b) (i+1)).length) qc),(.map (some m))]] [(0,0),(1,0),(2,0),(5,0),(6,0),(7,0),(8,0),(9,0),(10,0),(11,0),(12,0),(13,0),(14,0),(15,0),(16,0),(17,0),(18,0),(19,0),(3,1),(4,1),(23,0),(20,1),(21,1),(22,1),(24,2),(25,2),(26,2)] (by exact Sub.k (.d (.d (.k (.k (.k (.k (.k (.k (.k (.k .z))))))))))) ?_
  refine ao F (aN bW F dM F F) (ao F (aQ 1 du F F F F) (ao F (az F) (ao F (aN bW F cA F F) (ao F (aQ 1 df F F F F) (ao F (aQ 5 N_ F F F F) (ao F (aN bW F cA F F) (ao F (aQ 7 df F F F F) (ao F (aN lz F aO F F) (ao F (aQ 0 cS F F F F) (ao F (cV (i:=(o/b.next.length)) df dU F F (ay ha.ax) (by rw[va.fin];exact hs) (by rw[List.length_map,va.fin];exact hs)) (ao F (cd zi F F (ay ha.ax) VG) (ao F (aN bW F cA F F) (ao F (aQ 6 df F F F F) (ao F (aN lz F aO F F) (ao F (aQ 0 cS F F F F) (ao F (cV (i:=(o%b.next.length)) df dU F F (ay hb.ax) (by rw[vb.fin];exact ht) (by rw[List.length_map,vb.fin];exact ht)) (ao F (cd zi F F (ay hb.ax) vx) ?_)))))))))))))))))
  refine bo F F (bM (v:=(.slice (aD rb) L L)) du bV F F F (fun z9=>⟨by exact Sub.d (.k (.d (.d (.k (.k (.k (.k (.k (.k (.k (.k .z))))))))))),?_⟩))
  refine bo F F (bY 2 du du bV F F F F (by simp;omega) (by decide) (Src.row (j:=0) F (by simp)) (by simp[dS]) (by omega) (by decide) (by decide) (fun nC iT=>⟨by exact Sub.d (.k (.d (.d (.k (.k (.k (.k (.k (.k (.k (.k .z))))))))))),?_⟩))
  refine ao F (aN bW F dM F F) ?_
  have As:=dn.under (B:=([am (aD z9) 1 56 1 [(.slice (aD rb) L L)],oI z8 234 [vN (o/b.next.length),vN (o%b.next.length)],am nC iT 56 1 ((bO qs)++[(.slice (aD rb) L L)]),am pF pG 4 1 (bf fs),oI z7 25 [(vI a.vars),(vI 0),(.slice rN n1 rO),(.slice pF n2 pG)],oI z6 227 [(.pointer (aD bp))],oI z5 27 [(vI 0)],oI z4 25 [(vI 0),(vI 0),nS,nS],oI z3 197 [(.func (.func g) #[] #[])],oI z2 25 (dC b k),oI z1 25 (dC a j),oI bp 238 [(vI a.vars),(vI a.start),(.slice j.nb a.next.length j.nc),(.slice j.fb a.ax.length j.fc),(vI b.vars),(vI b.start),(.slice k.nb b.next.length k.nc),(.slice k.fb b.ax.length k.fc),(.slice qb ((b_ (aU f a b) (i+1)).length) qc),(.map (some m))],am qb qc 234 2 (jM b.next.length (b_ (aU f a b) (i+1))),cm dv (fun n:Nat=>Value.int .i64 (n:Int)) m (pmap b.next.length (b_ (aU f a b) (i+1))),am (aD rb) L 3 1 (ints (pH (aU f a b) o))]++a_ 3 qs)) (O:=([am (aD z9) 1 56 1 [(.slice (aD rb) L L)],oI z8 234 [vN (o/b.next.length),vN (o%b.next.length)],am nC iT 56 1 ((bO qs)++[(.slice (aD rb) L L)]),am pF pG 4 1 (bf fs),oI z7 25 [(vI a.vars),(vI 0),(.slice rN n1 rO),(.slice pF n2 pG)],oI z6 227 [(.pointer (aD bp))],oI z5 27 [(vI 0)],oI z4 25 [(vI 0),(vI 0),nS,nS],oI z3 197 [(.func (.func g) #[] #[])],oI z2 25 (dC b k),oI z1 25 (dC a j),oI bp 238 [(vI a.vars),(vI a.start),(.slice j.nb a.next.length j.nc),(.slice j.fb a.ax.length j.fc),(vI b.vars),(vI b.start),(.slice k.nb b.next.length k.nc),(.slice k.fb b.ax.length k.fc),(.slice qb ((b_ (aU f a b) (i+1)).length) qc),(.map (some m))],am qb qc 234 2 (jM b.next.length (b_ (aU f a b) (i+1))),cm dv (fun n:Nat=>Value.int .i64 (n:Int)) m (pmap b.next.length (b_ (aU f a b) (i+1))),am (aD rb) L 3 1 (ints (pH (aU f a b) o))]++(a_ 3 qs))) (hf w (cF a (o/b.next.length)) (cF b (o%b.next.length))) (by exact Sub.rf)
  refine bo F F (dx As F F ?_)
  clear As
  rintro vr O' ⟨A1,rfl,rfl,rfl⟩
  refine⟨by exact Sub.d (.k (.d (.d (.k (.k (.k (.k (.k (.k (.k (.k .z))))))))))),?_⟩
  refine bo F F (bM (v:=.bool (f (cF a (o/b.next.length)) (cF b (o%b.next.length)))) df dU F F F (fun z12=>⟨by exact Sub.d (.d (.k (.d (.d (.k (.k (.k (.k (.k (.k (.k (.k .z)))))))))))),?_⟩))
  refine bo F F (bY 4 df df dU F F F F (by simp;omega) (by decide) (Src.row (j:=0) F (by simp)) (by simp[dS]) (by omega) (by decide) (by decide) (fun lK km=>⟨by exact Sub.d (.d (.k (.d (.d (.k (.k (.k (.k (.k (.k (.k (.k .z)))))))))))),?_⟩))
  refine bq F F (a8 (vs:=[(.slice nC (n1+1) iT)]) 5 dM F F F F ?_)
  refine bq F F (dw F F (aN bW F cA F F) ?_)
  refine bq F F (a8 (vs:=[(.slice lK (n2+1) km)]) 5 cA F F F F ?_)
  refine dL (O':=([am nC iT 56 1 ((bO qs)++[(.slice (aD rb) L L)]),am lK km 4 1 ((bf fs)++[.bool (f (cF a (o/b.next.length)) (cF b (o%b.next.length)))]),oI z7 25 [(vI a.vars),(vI 0),(.slice nC (n1+1) iT),(.slice lK (n2+1) km)],oI z6 227 [(.pointer (aD bp))],oI z5 27 [(vI 0)],oI z4 25 [(vI 0),(vI 0),nS,nS],oI z3 197 [(.func (.func g) #[] #[])],oI z2 25 (dC b k),oI z1 25 (dC a j),am (aD rb) L 3 1 (ints (pH (aU f a b) o)),oI bp 238 [(vI a.vars),(vI a.start),(.slice j.nb a.next.length j.nc),(.slice j.fb a.ax.length j.fc),(vI b.vars),(vI b.start),(.slice k.nb b.next.length k.nc),(.slice k.fb b.ax.length k.fc),(.slice qb ((b_ (aU f a b) (i+1)).length) qc),(.map (some m))],am qb qc 234 2 (jM b.next.length (b_ (aU f a b) (i+1))),cm dv (fun n:Nat=>Value.int .i64 (n:Int)) m (pmap b.next.length (b_ (aU f a b) (i+1)))]++a_ 3 qs)) (by exact Sub.d (.d (.d (.k (.k (.k (.k (.k (.k (.k (.k (.k (.dr [oI bp 238 [(vI a.vars),(vI a.start),(.slice j.nb a.next.length j.nc),(.slice j.fb a.ax.length j.fc),(vI b.vars),(vI b.start),(.slice k.nb b.next.length k.nc),(.slice k.fb b.ax.length k.fc),(.slice qb ((b_ (aU f a b) (i+1)).length) qc),(.map (some m))],am qb qc 234 2 (jM b.next.length (b_ (aU f a b) (i+1))),cm dv (fun n:Nat=>Value.int .i64 (n:Int)) m (pmap b.next.length (b_ (aU f a b) (i+1)))] _ (.k (.k (.k .rf)))))))))))))))) ?_
  refine dL (O':=(([am nC iT 56 1 (bO (qs++[⟨some ⟨rb,0,none⟩,L,pH (aU f a b) o⟩])),am lK km 4 1 (bf (fs++[f (cF a (o/b.next.length)) (cF b (o%b.next.length))])),oI z7 25 [(vI a.vars),(vI 0),(.slice nC (n1+1) iT),(.slice lK (n2+1) km)],oI z6 227 [(.pointer (aD bp))],oI z5 27 [(vI 0)],oI z4 25 [(vI 0),(vI 0),nS,nS],oI z3 197 [(.func (.func g) #[] #[])],oI z2 25 (dC b k),oI z1 25 (dC a j)]++a_ 3 (qs++[⟨some ⟨rb,0,none⟩,L,pH (aU f a b) o⟩]))++[oI bp 238 [(vI a.vars),(vI a.start),(.slice j.nb a.next.length j.nc),(.slice j.fb a.ax.length j.fc),(vI b.vars),(vI b.start),(.slice k.nb b.next.length k.nc),(.slice k.fb b.ax.length k.fc),(.slice qb ((b_ (aU f a b) (i+1)).length) qc),(.map (some m))],am qb qc 234 2 (jM b.next.length (b_ (aU f a b) (i+1))),cm dv (fun n:Nat=>Value.int .i64 (n:Int)) m (pmap b.next.length (b_ (aU f a b) (i+1)))])) (by rw[X4,X5];exact Sub.fold [am nC iT 56 1 ((bO qs)++[(.slice (aD rb) L L)]),am lK km 4 1 ((bf fs)++[.bool (f (cF a (o/b.next.length)) (cF b (o%b.next.length)))]),oI z7 25 [(vI a.vars),(vI 0),(.slice nC (n1+1) iT),(.slice lK (n2+1) km)],oI z6 227 [(.pointer (aD bp))],oI z5 27 [(vI 0)],oI z4 25 [(vI 0),(vI 0),nS,nS],oI z3 197 [(.func (.func g) #[] #[])],oI z2 25 (dC b k),oI z1 25 (dC a j)] (am (aD rb) L 3 1 (ints (pH (aU f a b) o))) [oI bp 238 [(vI a.vars),(vI a.start),(.slice j.nb a.next.length j.nc),(.slice j.fb a.ax.length j.fc),(vI b.vars),(vI b.start),(.slice k.nb b.next.length k.nc),(.slice k.fb b.ax.length k.fc),(.slice qb ((b_ (aU f a b) (i+1)).length) qc),(.map (some m))],am qb qc 234 2 (jM b.next.length (b_ (aU f a b) (i+1))),cm dv (fun n:Nat=>Value.int .i64 (n:Int)) m (pmap b.next.length (b_ (aU f a b) (i+1)))] (a_ 3 qs) _ (wP 3 qs ⟨some ⟨rb,0,none⟩,L,pH (aU f a b) o⟩)) ?_
  refine bw ?_
  refine .inl ⟨F,_,F,nC,lK,iT,km,n1+1,n2+1,qs++[⟨some ⟨rb,0,none⟩,L,pH (aU f a b) o⟩],fs++[f (cF a (o/b.next.length)) (cF b (o%b.next.length))],F,by omega,by omega,by simp[DG],by simp[pP],?_,?_⟩
  ·rw[take_at UV,List.map_append]
   show List.map Rec.xs (qs++[_])=_
   rw[List.map_append,show List.map Rec.xs qs=_ from xq];rfl
  ·rw[take_at UV,List.map_append,kY,←wO (f:=f) ho];rfl
 ·refine⟨none,none,0,0,0,0,[],[],F,F,F,F,F,by simp,by simp⟩
 rintro v O' (⟨N,qbF,qcF,O2,rfl,hN,rN,pF,rO,pG,n1,n2,qs,fs,rfl,X2,X3,DG,pP,xq,kY⟩|hF)
 rotate_left
 ·exact hF.elim
 refine⟨none,_,F,?_⟩
 refine aB ?_
 refine ck (O':=([am rN rO 56 1 (bO qs),am pF pG 4 1 (bf fs),oI z7 25 [(vI a.vars),(vI 0),(.slice rN n1 rO),(.slice pF n2 pG)],oI z6 227 [(.pointer (aD bp))],oI z5 27 [(vI 0)],oI z4 25 [(vI 0),(vI 0),nS,nS],oI z3 197 [(.func (.func g) #[] #[])],oI z2 25 (dC b k),oI z1 25 (dC a j)]++a_ 3 qs)) (bn (List.sublist_append_left _ _)) ?_
 have W9:=Dm va vb hv hN
 have PU:(order (aU f a b)).length=N:=by rw[W9];exact hN
 have e1:nums qs=(db (aU f a b)).next:=by rw[xq,←PU,List.take_length];exact(pZ _).symm
 have e2:fs=(db (aU f a b)).ax:=by rw[kY,←PU,List.take_length];rfl
 obtain rfl:n1=(db (aU f a b)).next.length:=by rw[pZ,List.length_map];omega
 obtain rfl:n2=(db (aU f a b)).ax.length:=by rw[B7,List.length_map];omega
 subst e2
 have vD:=jm (f:=f) va.toVal vb.toVal hv
 have vR:=r8 vD X1
 refine ck (O':=([am rN rO 56 1 (bO qs),am pF pG 4 1 (bf (db (aU f a b)).ax),oI z7 25 [(vI (db (aU f a b)).vars),(vI (db (aU f a b)).start),(.slice rN ((db (aU f a b)).next.length) rO),(.slice pF ((db (aU f a b)).ax.length) pG)],oI z6 227 [(.pointer (aD bp))],oI z5 27 [(vI 0)],oI z4 25 [(vI 0),(vI 0),nS,nS],oI z3 197 [(.func (.func g) #[] #[])],oI z2 25 (dC b k),oI z1 25 (dC a j)]++a_ 3 qs)) (by exact Sub.rf) ?_
 refine aJ (ad (dh 2 bW F aY F F F) (ak F (aP xo (aI fun w1 hI=>(haveI:=di hI;xp w1 (db (aU f a b)) ⟨rN,rO,pF,pG,qs⟩ (show At w1 (db (aU f a b)) ⟨rN,rO,pF,pG,qs⟩from⟨hI.fV (mG 0 F),e1▸hI.R7 (fun q hq=>List.mem_append_right _ (List.mem_map_of_mem (f:=Rec.qG 3) hq)),hI.fV (mG 1 F)⟩) vR (by rw[pZ,List.length_map];exact Nat.lt_of_le_of_lt X1 (by decide)) (uE vD))) F ?_)))
 rintro vr O' ⟨N9,rfl,k',rfl,rfl⟩
 refine ad (aV (vs:=_) F F) (ad (aV (vs:=_) F F) (ak F (a8 (vs:=(dC (gJ (aU f a b)) k')) 6 aY F F F F ?_)))
 refine ak F (a8 (vs:=[(vI 0)]) 5 gB F F F F ?_)
 refine ae (aA (ap ?_))
 refine ga (i:=6) (j:=5) Tryz.results138 bW F aY mr F F F F F F ?_
 exact⟨[dI 56 4 3 (gJ (aU f a b)) k'],(by exact Sub.k .z),k',F,F⟩
theorem CG (w:World) [cG Tryz.prog w] (a b:bU) (j k:DK) (ha:At w a j) (hb:At w b k) (va:Valid a) (vb:Valid b) (hv:a.vars=b.vars) (f:Bool→Bool→Bool) (g:Nat) (hf: ∀(base:World) (x y:Bool),dn Tryz.prog base (.func (.func g) #[] #[]) [.bool x,.bool y] [] (fun v O'=>v=.bool (f x y)∧O'=[])) (X7:4096<(order (aU f a b)).length):
  bI Tryz.prog 138 [dV a j,dV b k,.func (.func g) #[] #[]] w fun v N=>v=.tuple #[dV zv ⟨none,0,none,0,[]⟩,vI 10]∧N=[]:=by
 refine aw func138 F ntmps138 F ?_
 have h4:a.next.length*b.next.length≤4096*4096:=Nat.mul_le_mul va.n4 vb.n4
 obtain⟨L,hL⟩: ∃L,2^a.vars.toNat=L:=⟨_,F⟩
 have hw:L≤64:=by rw[←hL];exact va.width
 refine ai (ak F (cH (cs:=(dC a j)) F F (fun z1=>?_)))
 refine ak F (cH (cs:=(dC b k)) F F (fun z2=>?_))
 refine ak F (cH (cs:=[(.func (.func g) #[] #[])]) F F (fun z3=>?_))
 refine ak F (aR aY F (fun z4=>?_))
 refine ak F (aR gB F (fun z5=>?_))
 refine ae (ai (ad (dh 4 bW F aY F F F) (ad (dh 3 bW F aY F F F) (ak F (aP C1 (aI fun w1 hI=>(haveI:=di hI;EP w1 a b j k (hI.nN ha) (hI.nN hb) va vb hv)) F ?_)))))
 rintro vr O' ⟨N,rfl,bp,qb,m,rfl,rfl⟩
 refine ah F (ad (aV (vs:=_) F F) (ad (aV (vs:=_) F F) (ak F (aR sF F (fun z6=>?_)))))
 refine ak F (a8 (vs:=[(.pointer (aD bp))]) 0 sF F F F F ?_)
 refine aj F (ae (aB (ai (ah F (ad (cT F F) (ae (aL F (av (ai (ad (aN bW F aO F F) (ad (aQ 8 cS F F F F) (ad (bG (cs:=[(vI a.vars),(vI 0),nS,nS]) gD aY (by kernel_rfl)) (ak F (aR aY F (fun z7=>?_)))))))))))))))
 refine ak F (a8 (vs:=[(vI a.vars),(vI 0),nS,nS]) 0 aY F F F F ?_)
 refine ae (aB (aB (T.dJ 4 1 ?_)))
 refine T.dJ 56 1 ?_
 refine aJ (ad (aQ 3 pT F F F F) (ak F (aP I9 (aI fun w1 hI=>(haveI:=di hI;JV w1 bp)) F ?_)))
 rintro vr O' ⟨N,rfl,bP,rfl,rfl⟩
 refine ae (aG ?_)
 refine T.rangeFunc (first:=[]) (eY:=[(.pointer (aD bP))]) F I_ (fun yl yq QU=>?_)
 refine bm.mono (bm.sub (O':=oI bP 227 [(.pointer (aD bp))]::oI bp 238 [(vI a.vars),(vI a.start),(.slice j.nb a.next.length j.nc),(.slice j.fb a.ax.length j.fc),(vI b.vars),(vI b.start),(.slice k.nb b.next.length k.nc),(.slice k.fb b.ax.length k.fc),(.slice (aD qb) ([a.start.toNat*b.next.length+b.start.toNat].length) 1),(.map (some m))]::am (aD qb) 1 234 2 (jM b.next.length [a.start.toNat*b.next.length+b.start.toNat])::cm dv (fun n:Nat=>Value.int .i64 (n:Int)) m (pmap b.next.length [a.start.toNat*b.next.length+b.start.toNat])::(cR yl (lp yq none)::[am none 0 56 1 (bO []),am none 0 4 1 (bf []),oI z7 25 [(vI a.vars),(vI 0),nS,nS],oI z6 227 [(.pointer (aD bp))],oI z5 27 [(vI 0)],oI z4 25 [(vI 0),(vI 0),nS,nS],oI z3 197 [(.func (.func g) #[] #[])],oI z2 25 (dC b k),oI z1 25 (dC a j)])) (ar [1,5,5,5,0,0,0,0,0,0,0,0,0,0] F) (JY w f a b j k ha hb va vb hv L hL bP bp m (aD qb) 1 (.func (.yield yl) #[] #[]) (fun i O=> ∃(rN pF:Option Addr) (rO pG n1 n2:Nat) (qs:List Rec) (fs:List Bool),O=cR yl (lp yq none)::([am rN rO 56 1 (bO qs),am pF pG 4 1 (bf fs),oI z7 25 [(vI a.vars),(vI 0),(.slice rN n1 rO),(.slice pF n2 pG)],oI z6 227 [(.pointer (aD bp))],oI z5 27 [(vI 0)],oI z4 25 [(vI 0),(vI 0),nS,nS],oI z3 197 [(.func (.func g) #[] #[])],oI z2 25 (dC b k),oI z1 25 (dC a j)]++(a_ 3 qs))∧n1=i∧n2=i∧qs.length=i∧fs.length=i∧nums qs=((order (aU f a b)).take i).map (pH (aU f a b))∧fs=((order (aU f a b)).take i).map (cF (aU f a b))∧(b_ (aU f a b) i).length≤4096) (fun O=>O=cR yl (lp yq (some .ret))::[oI z5 27 [(vI 10)],oI z4 25 [(vI 0),(vI 0),nS,nS]]) ?_ _ ?_)) ?_
 ·intro i o qb qc rb O hq hJ
  obtain⟨rN,pF,rO,pG,n1,n2,qs,fs,rfl,X2,X3,DG,pP,xq,kY,Ds⟩:=hJ
  refine dn.yield QU F F ?_
  refine ck (O':=([am rN rO 56 1 (bO qs),am pF pG 4 1 (bf fs),oI z7 25 [(vI a.vars),(vI 0),(.slice rN n1 rO),(.slice pF n2 pG)],oI z6 227 [(.pointer (aD bp))],oI z5 27 [(vI 0)],oI z4 25 [(vI 0),(vI 0),nS,nS],oI z3 197 [(.func (.func g) #[] #[])],oI z2 25 (dC b k),oI z1 25 (dC a j),oI bp 238 [(vI a.vars),(vI a.start),(.slice j.nb a.next.length j.nc),(.slice j.fb a.ax.length j.fc),(vI b.vars),(vI b.start),(.slice k.nb b.next.length k.nc),(.slice k.fb b.ax.length k.fc),(.slice qb ((b_ (aU f a b) (i+1)).length) qc),(.map (some m))],am qb qc 234 2 (jM b.next.length (b_ (aU f a b) (i+1))),cm dv (fun n:Nat=>Value.int .i64 (n:Int)) m (pmap b.next.length (b_ (aU f a b) (i+1))),am (aD rb) L 3 1 (ints (pH (aU f a b) o))]++a_ 3 qs)) (by exact eW [am rN rO 56 1 (bO qs),am pF pG 4 1 (bf fs),oI z7 25 [(vI a.vars),(vI 0),(.slice rN n1 rO),(.slice pF n2 pG)],oI z6 227 [(.pointer (aD bp))],oI z5 27 [(vI 0)],oI z4 25 [(vI 0),(vI 0),nS,nS],oI z3 197 [(.func (.func g) #[] #[])],oI z2 25 (dC b k),oI z1 25 (dC a j)] _ (a_ 3 qs)) ?_
  have Qh:=iO (f:=f) va vb hv i
  have Vy:=(List.getElem?_eq_some_iff.1 hq).1
  have ho:=(iV (f:=f) va vb hv i).2 o (List.mem_of_getElem? hq)
  obtain⟨hs,ht⟩:=l8 ho
  have UV:=GJ hq (by rw[gY];omega)
  have VG:(bf a.ax)[o/b.next.length]? =some (.bool (cF a (o/b.next.length))):=by
   have hl:o/b.next.length<a.ax.length:=by rw[va.fin];exact hs
   rw[fY hl];unfold cF;rw[List.getD_eq_getElem?_getD,List.getElem?_eq_getElem hl];rfl
  have vx:(bf b.ax)[o%b.next.length]? =some (.bool (cF b (o%b.next.length))):=by
   have hl:o%b.next.length<b.ax.length:=by rw[vb.fin];exact ht
   rw[fY hl];unfold cF;rw[List.getD_eq_getElem?_getD,List.getElem?_eq_getElem hl];rfl
  have E8:(pH (aU f a b) o).length=L:=by unfold pH;rw[List.length_map,lZ];exact hL
  have X4:bO (qs++[⟨some ⟨rb,0,none⟩,L,pH (aU f a b) o⟩])=bO qs++[.slice (aD rb) L L]:=by simp[Rec.val,E8]
  have X5:bf (fs++[f (cF a (o/b.next.length)) (cF b (o%b.next.length))])=bf fs++[.bool (f (cF a (o/b.next.length)) (cF b (o%b.next.length)))]:=by simp
  have X6:=iO (f:=f) va vb hv (i+1)
  refine ai (ak F (aR fH F (fun z8=>?_)))
  refine ak F (a8 (vs:=[vN (o/b.next.length),vN (o%b.next.length)]) 0 fH F F F F ?_)
  refine ae (aJ (aj F (ae (aG (aB (ai (ad (aQ 4 pT F F F F) (ad (aK F) (ad (aN mJ F np F F) (ad (aQ 10 ku F F F F) (ad (bS ku F) (ad (fW F F) (ae (aC F (fun hc=>?_) (fun hc=>?_)))))))))))))))
  ·have nA:(b_ (aU f a b) (i+1)).length>4096:=by omega
   refine ai (ad (bG gD aY F) (ak F (a8 (vs:=[(vI 0),(vI 0),nS,nS]) 6 aY F F F F ?_)))
   refine ak F (a8 (vs:=[(vI 10)]) 5 gB F F F F ?_)
   refine cQ (O':=[oI z5 27 [(vI 10)],oI z4 25 [(vI 0),(vI 0),nS,nS]]) (by exact Sub.d (.d (.d (.d (.d (.k (.k .z))))))) ?_
   refine ae (aA ?_)
   exact .inr ⟨F,F⟩
  have nB: ¬(b_ (aU f a b) (i+1)).length>4096:=by omega
  refine av ?_
  refine T.ds [oI z8 234 [vN (o/b.next.length),vN (o%b.next.length)],oI z7 25 [(vI a.vars),(vI 0),(.slice rN n1 rO),(.slice pF n2 pG)],oI z6 227 [(.pointer (aD bp))],oI z5 27 [(vI 0)],oI z4 25 [(vI 0),(vI 0),nS,nS],oI z3 197 [(.func (.func g) #[] #[])],oI z2 25 (dC b k),oI z1 25 (dC a j),oI bp 238 [(vI a.vars),(vI a.start),(.slice j.nb a.next.length j.nc),(.slice j.fb a.ax.length j.fc),(vI b.vars),(vI b.start),(.slice k.nb b.next.length k.nc),(.slice k.fb b.ax.length k.fc),(.slice qb ((b_ (aU f a b) (i+1)).length) qc),(.map (some m))]] [(0,0),(1,0),(2,0),(5,0),(6,0),(7,0),(8,0),(9,0),(10,0),(11,0),(12,0),(13,0),(14,0),(15,0),(16,0),(17,0),(18,0),(19,0),(3,1),(4,1),(23,0),(20,1),(21,1),(22,1),(24,2),(25,2),(26,2)] (by exact Sub.k (.d (.d (.k (.k (.k (.k (.k (.k (.k (.k .z))))))))))) ?_
  refine ao F (aN bW F dM F F) (ao F (aQ 1 du F F F F) (ao F (az F) (ao F (aN bW F cA F F) (ao F (aQ 1 df F F F F) (ao F (aQ 5 N_ F F F F) (ao F (aN bW F cA F F) (ao F (aQ 7 df F F F F) (ao F (aN lz F aO F F) (ao F (aQ 0 cS F F F F) (ao F (cV (i:=(o/b.next.length)) df dU F F (ay ha.ax) (by rw[va.fin];exact hs) (by rw[List.length_map,va.fin];exact hs)) (ao F (cd zi F F (ay ha.ax) VG) (ao F (aN bW F cA F F) (ao F (aQ 6 df F F F F) (ao F (aN lz F aO F F) (ao F (aQ 0 cS F F F F) (ao F (cV (i:=(o%b.next.length)) df dU F F (ay hb.ax) (by rw[vb.fin];exact ht) (by rw[List.length_map,vb.fin];exact ht)) (ao F (cd zi F F (ay hb.ax) vx) ?_)))))))))))))))))
  refine bo F F (bM (v:=(.slice (aD rb) L L)) du bV F F F (fun z9=>⟨by exact Sub.d (.k (.d (.d (.k (.k (.k (.k (.k (.k (.k (.k .z))))))))))),?_⟩))
  refine bo F F (bY 2 du du bV F F F F (by simp;omega) (by decide) (Src.row (j:=0) F (by simp)) (by simp[dS]) (by omega) (by decide) (by decide) (fun nC iT=>⟨by exact Sub.d (.k (.d (.d (.k (.k (.k (.k (.k (.k (.k (.k .z))))))))))),?_⟩))
  refine ao F (aN bW F dM F F) ?_
  have As:=dn.under (B:=([am (aD z9) 1 56 1 [(.slice (aD rb) L L)],oI z8 234 [vN (o/b.next.length),vN (o%b.next.length)],am nC iT 56 1 ((bO qs)++[(.slice (aD rb) L L)]),am pF pG 4 1 (bf fs),oI z7 25 [(vI a.vars),(vI 0),(.slice rN n1 rO),(.slice pF n2 pG)],oI z6 227 [(.pointer (aD bp))],oI z5 27 [(vI 0)],oI z4 25 [(vI 0),(vI 0),nS,nS],oI z3 197 [(.func (.func g) #[] #[])],oI z2 25 (dC b k),oI z1 25 (dC a j),oI bp 238 [(vI a.vars),(vI a.start),(.slice j.nb a.next.length j.nc),(.slice j.fb a.ax.length j.fc),(vI b.vars),(vI b.start),(.slice k.nb b.next.length k.nc),(.slice k.fb b.ax.length k.fc),(.slice qb ((b_ (aU f a b) (i+1)).length) qc),(.map (some m))],am qb qc 234 2 (jM b.next.length (b_ (aU f a b) (i+1))),cm dv (fun n:Nat=>Value.int .i64 (n:Int)) m (pmap b.next.length (b_ (aU f a b) (i+1))),am (aD rb) L 3 1 (ints (pH (aU f a b) o))]++a_ 3 qs)) (O:=([am (aD z9) 1 56 1 [(.slice (aD rb) L L)],oI z8 234 [vN (o/b.next.length),vN (o%b.next.length)],am nC iT 56 1 ((bO qs)++[(.slice (aD rb) L L)]),am pF pG 4 1 (bf fs),oI z7 25 [(vI a.vars),(vI 0),(.slice rN n1 rO),(.slice pF n2 pG)],oI z6 227 [(.pointer (aD bp))],oI z5 27 [(vI 0)],oI z4 25 [(vI 0),(vI 0),nS,nS],oI z3 197 [(.func (.func g) #[] #[])],oI z2 25 (dC b k),oI z1 25 (dC a j),oI bp 238 [(vI a.vars),(vI a.start),(.slice j.nb a.next.length j.nc),(.slice j.fb a.ax.length j.fc),(vI b.vars),(vI b.start),(.slice k.nb b.next.length k.nc),(.slice k.fb b.ax.length k.fc),(.slice qb ((b_ (aU f a b) (i+1)).length) qc),(.map (some m))],am qb qc 234 2 (jM b.next.length (b_ (aU f a b) (i+1))),cm dv (fun n:Nat=>Value.int .i64 (n:Int)) m (pmap b.next.length (b_ (aU f a b) (i+1))),am (aD rb) L 3 1 (ints (pH (aU f a b) o))]++(a_ 3 qs))) (hf w (cF a (o/b.next.length)) (cF b (o%b.next.length))) (by exact Sub.rf)
  refine bo F F (dx As F F ?_)
  clear As
  rintro vr O' ⟨A1,rfl,rfl,rfl⟩
  refine⟨by exact Sub.d (.k (.d (.d (.k (.k (.k (.k (.k (.k (.k (.k .z))))))))))),?_⟩
  refine bo F F (bM (v:=.bool (f (cF a (o/b.next.length)) (cF b (o%b.next.length)))) df dU F F F (fun z12=>⟨by exact Sub.d (.d (.k (.d (.d (.k (.k (.k (.k (.k (.k (.k (.k .z)))))))))))),?_⟩))
  refine bo F F (bY 4 df df dU F F F F (by simp;omega) (by decide) (Src.row (j:=0) F (by simp)) (by simp[dS]) (by omega) (by decide) (by decide) (fun lK km=>⟨by exact Sub.d (.d (.k (.d (.d (.k (.k (.k (.k (.k (.k (.k (.k .z)))))))))))),?_⟩))
  refine bq F F (a8 (vs:=[(.slice nC (n1+1) iT)]) 5 dM F F F F ?_)
  refine bq F F (dw F F (aN bW F cA F F) ?_)
  refine bq F F (a8 (vs:=[(.slice lK (n2+1) km)]) 5 cA F F F F ?_)
  refine dL (O':=([am nC iT 56 1 ((bO qs)++[(.slice (aD rb) L L)]),am lK km 4 1 ((bf fs)++[.bool (f (cF a (o/b.next.length)) (cF b (o%b.next.length)))]),oI z7 25 [(vI a.vars),(vI 0),(.slice nC (n1+1) iT),(.slice lK (n2+1) km)],oI z6 227 [(.pointer (aD bp))],oI z5 27 [(vI 0)],oI z4 25 [(vI 0),(vI 0),nS,nS],oI z3 197 [(.func (.func g) #[] #[])],oI z2 25 (dC b k),oI z1 25 (dC a j),am (aD rb) L 3 1 (ints (pH (aU f a b) o)),oI bp 238 [(vI a.vars),(vI a.start),(.slice j.nb a.next.length j.nc),(.slice j.fb a.ax.length j.fc),(vI b.vars),(vI b.start),(.slice k.nb b.next.length k.nc),(.slice k.fb b.ax.length k.fc),(.slice qb ((b_ (aU f a b) (i+1)).length) qc),(.map (some m))],am qb qc 234 2 (jM b.next.length (b_ (aU f a b) (i+1))),cm dv (fun n:Nat=>Value.int .i64 (n:Int)) m (pmap b.next.length (b_ (aU f a b) (i+1)))]++a_ 3 qs)) (by exact Sub.d (.d (.d (.k (.k (.k (.k (.k (.k (.k (.k (.k (.dr [oI bp 238 [(vI a.vars),(vI a.start),(.slice j.nb a.next.length j.nc),(.slice j.fb a.ax.length j.fc),(vI b.vars),(vI b.start),(.slice k.nb b.next.length k.nc),(.slice k.fb b.ax.length k.fc),(.slice qb ((b_ (aU f a b) (i+1)).length) qc),(.map (some m))],am qb qc 234 2 (jM b.next.length (b_ (aU f a b) (i+1))),cm dv (fun n:Nat=>Value.int .i64 (n:Int)) m (pmap b.next.length (b_ (aU f a b) (i+1)))] _ (.k (.k (.k .rf)))))))))))))))) ?_
  refine dL (O':=(([am nC iT 56 1 (bO (qs++[⟨some ⟨rb,0,none⟩,L,pH (aU f a b) o⟩])),am lK km 4 1 (bf (fs++[f (cF a (o/b.next.length)) (cF b (o%b.next.length))])),oI z7 25 [(vI a.vars),(vI 0),(.slice nC (n1+1) iT),(.slice lK (n2+1) km)],oI z6 227 [(.pointer (aD bp))],oI z5 27 [(vI 0)],oI z4 25 [(vI 0),(vI 0),nS,nS],oI z3 197 [(.func (.func g) #[] #[])],oI z2 25 (dC b k),oI z1 25 (dC a j)]++a_ 3 (qs++[⟨some ⟨rb,0,none⟩,L,pH (aU f a b) o⟩]))++[oI bp 238 [(vI a.vars),(vI a.start),(.slice j.nb a.next.length j.nc),(.slice j.fb a.ax.length j.fc),(vI b.vars),(vI b.start),(.slice k.nb b.next.length k.nc),(.slice k.fb b.ax.length k.fc),(.slice qb ((b_ (aU f a b) (i+1)).length) qc),(.map (some m))],am qb qc 234 2 (jM b.next.length (b_ (aU f a b) (i+1))),cm dv (fun n:Nat=>Value.int .i64 (n:Int)) m (pmap b.next.length (b_ (aU f a b) (i+1)))])) (by rw[X4,X5];exact Sub.fold [am nC iT 56 1 ((bO qs)++[(.slice (aD rb) L L)]),am lK km 4 1 ((bf fs)++[.bool (f (cF a (o/b.next.length)) (cF b (o%b.next.length)))]),oI z7 25 [(vI a.vars),(vI 0),(.slice nC (n1+1) iT),(.slice lK (n2+1) km)],oI z6 227 [(.pointer (aD bp))],oI z5 27 [(vI 0)],oI z4 25 [(vI 0),(vI 0),nS,nS],oI z3 197 [(.func (.func g) #[] #[])],oI z2 25 (dC b k),oI z1 25 (dC a j)] (am (aD rb) L 3 1 (ints (pH (aU f a b) o))) [oI bp 238 [(vI a.vars),(vI a.start),(.slice j.nb a.next.length j.nc),(.slice j.fb a.ax.length j.fc),(vI b.vars),(vI b.start),(.slice k.nb b.next.length k.nc),(.slice k.fb b.ax.length k.fc),(.slice qb ((b_ (aU f a b) (i+1)).length) qc),(.map (some m))],am qb qc 234 2 (jM b.next.length (b_ (aU f a b) (i+1))),cm dv (fun n:Nat=>Value.int .i64 (n:Int)) m (pmap b.next.length (b_ (aU f a b) (i+1)))] (a_ 3 qs) _ (wP 3 qs ⟨some ⟨rb,0,none⟩,L,pH (aU f a b) o⟩)) ?_
  refine bw ?_
  refine .inl ⟨F,_,F,nC,lK,iT,km,n1+1,n2+1,qs++[⟨some ⟨rb,0,none⟩,L,pH (aU f a b) o⟩],fs++[f (cF a (o/b.next.length)) (cF b (o%b.next.length))],F,by omega,by omega,by simp[DG],by simp[pP],?_,?_,by omega⟩
  ·rw[take_at UV,List.map_append]
   show List.map Rec.xs (qs++[_])=_
   rw[List.map_append,show List.map Rec.xs qs=_ from xq];rfl
  ·rw[take_at UV,List.map_append,kY,←wO (f:=f) ho];rfl
 ·refine⟨none,none,0,0,0,0,[],[],F,F,F,F,F,by simp,by simp,by simp[b_]⟩
 rintro v O' (⟨N,qbF,qcF,O2,rfl,hN,rN,pF,rO,pG,n1,n2,qs,fs,rfl,X2,X3,DG,pP,xq,kY,Ds⟩|rfl)
 ·exact absurd X7 (by rw[Dm va vb hv hN];omega)
 refine⟨some .ret,_,F,?_⟩
 refine ap ?_
 refine ga (i:=1) (j:=0) Tryz.results138 bW F aY mr F F F F F F ?_
 exact⟨[],Sub.z,F,F⟩
end Go.Proofs.YtgdbfideeeegmaaGreatDoor

namespace Go.Proofs.YtgdbfideeeegmaaGreatDoor
open Go.Lx Go.RowKit _root_.Go.Proofs.Tryz
set_option maxRecDepth 20000 in
theorem JZ (w:World) [cG Tryz.prog w] (a b:bU) (j k:DK) (ha:At w a j) (hb:At w b k) (Kr:a.next.length<9223372036854775807) (wI: ∀r∈a.next,r.length<9223372036854775807) (wJ:a.ax.length<9223372036854775807) (Qk:b.next.length<9223372036854775807) (JT: ∀r∈b.next,r.length<9223372036854775807) (JU:b.ax.length<9223372036854775807) (f:Bool→Bool→Bool) (g:Nat) (hf: ∀(base:World) (x y:Bool),dn Tryz.prog base (.func (.func g) #[] #[]) [.bool x,.bool y] [] (fun v O'=>v=.bool (f x y)∧O'=[])) (hN:fA a b=0→(order (aU f a b)).length≤4096):
  bI Tryz.prog 138 [dV a j,dV b k,.func (.func g) #[] #[]] w fun v N=> ∃k':DK,v=.tuple #[dV (Gn f a b) k',vI (fA a b:Int)]∧N=[dI 56 4 3 (Gn f a b) k']:=by
 by_cases he:fA a b=0
 ·obtain⟨va,vb,hv⟩:=nW.1 he
  rw[GD he,he]
  exact AP w a b j k ha hb va vb hv f g hf (hN he)
 ·rw[Kz he]
  refine bm.dk (g:=fun x=>.tuple #[x,vI (fA a b:Int)]) ((eK 56 1 (eK 4 1 (Di w a b j k ha hb Kr wI wJ Qk JT JU g he))).mono ?_)
  rintro v N ⟨O2,rfl,O3,rfl,rfl,rfl⟩
  exact⟨none,0,none,0,[],F,F,F⟩
theorem UW (w:World) [cG Tryz.prog w] (a:bU) (j:DK) (ha:At w a j) (Kr:a.next.length<9223372036854775807) (wI: ∀r∈a.next,r.length<9223372036854775807) (wJ:a.ax.length<9223372036854775807) (hN:fA a a=0→(order (aU nU a a)).length≤4096):
  bI Tryz.prog 102 [dV a j] w fun v N=> ∃k':DK,v=.tuple #[dV (Gn nU a a) k',vI (fA a a:Int)]∧N=[dI 56 4 3 (Gn nU a a) k']:=by
 refine aw func102 F ntmps102 F ?_
 refine ai (ak F (cH (cs:=(dC a j)) F F (fun lX=>?_)))
 refine ak F (aR aY F (fun vd=>?_))
 refine aj F (ae (ai (ad (dh 1 bW F aY F F F) (ad (dh 1 bW F aY F F F) (ak F (aP CH (aI fun w1 hI=>(haveI:=di hI;JZ w1 a a j j (hI.nN ha) (hI.nN ha) Kr wI wJ Kr wI wJ nU 139 UT hN)) F ?_))))))
 rintro vr O' ⟨N,rfl,k',rfl,rfl⟩
 refine ad (aV (vs:=_) F F) (ad (aV (vs:=_) F F) (ak F (a8 (vs:=(dC (Gn nU a a) k')) 1 aY F F F F ?_)))
 refine aj F (ae (aA (ap ?_)))
 refine io (vI (fA a a:Int)) (i:=1) Tryz.results102 bW F aY F F F F ?_
 exact⟨[dI 56 4 3 (Gn nU a a) k'],(by exact Sub.k .z),k',F,F⟩
theorem WX (w:World) [cG Tryz.prog w] (a:bU) (j:DK) (ha:At w a j) (Kr:a.next.length<9223372036854775807) (wI: ∀r∈a.next,r.length<9223372036854775807) (wJ:a.ax.length<9223372036854775807):
  bI Tryz.prog 102 [dV a j] w fun v N=> ∃k':DK,v=.tuple #[dV (Gn nU a a) k',vI (cE a:Int)]∧N=[dI 56 4 3 (Gn nU a a) k']:=by
 have h:=UW w a j ha Kr wI wJ (fun hw=>by
  have hv:=(nW.1 hw).1
  exact Nat.le_trans (nV hv.toVal hv.toVal F hv.toVal F (Ky.refl a) (Ky.refl a)) hv.n4)
 rwa[sU]at h
end Go.Proofs.YtgdbfideeeegmaaGreatDoor

namespace Go.Proofs.YtgdbfideeeegmaaGreatDoor
open Go.Lx Go.RowKit _root_.Go.Proofs.Tryz
theorem WS (w:World) [cG Tryz.prog w] (p n x:Nat) (hp:p<256) (hn:n<256) (hx:x<256):
  bI Tryz.prog 140 [.agg #[v8 p,v8 n],v8 x] w fun v N=>v=.bool (ft p n x)∧N=[]:=by
 refine aw func140 F ntmps140 F ?_
 refine ai (ak F (cH (cs:=[v8 p,v8 n]) F F (fun lX=>?_)))
 refine aj F (ae (ai (ah F (ad (aN jt F cI F F) (ad (aQ 0 eu F F F F) (ad (Dz (a:=x) (b:=p) .u8 F F (by show _<256;omega) (by show _<256;omega)) (ad (aN jt F cI F F) (ad (aQ 0 eu F F F F) (ad (aZ F F) ?_)))))))))
 by_cases Tp:((x&&&p:Nat):Int)=((p:Nat):Int)
 ·refine ad (aq (az F) (decide_eq_true Tp)) ?_
  refine au F F (az F) (au F F (aN jt F cI F F) (au F F (aQ 0 eu F F F F) (au F F (Dz (a:=x) (b:=n) .u8 F F (by show _<256;omega) (by show _<256;omega)) (au F F (aZ F F) (ad (bu F F) (aj F (ae (aA (ap ?_)))))))))
  refine aE (.bool (decide (((x&&&n:Nat):Int)=0))) Tryz.results140 F ?_
  exact⟨[],bn (List.nil_sublist _),congrArg Value.bool (Eq.symm (decide_eq_decide.2 (by omega))),F⟩
 refine ad (aq (az F) (decide_eq_false Tp)) (aF F F (aF F F (aF F F (aF F F (aF F F (ad (bl F F) (aj F (ae (aA (ap ?_))))))))))
 refine aE (.bool false) Tryz.results140 F ?_
 exact⟨[],bn (List.nil_sublist _),congrArg Value.bool (Eq.symm (decide_eq_false (fun hm=>by omega))),F⟩
theorem AM (A B X:List Lx.Item) (c:Lx.Item) (h:Sub (A++[c]) B):Sub (A++(X++[c])) (B++X):=by
 have:=lN A B X [] c h
 simpa using this
theorem WT (w:World) [cG Tryz.prog w] (cb:Nat) (eb:Option Addr) (en ec vs B:Nat) (dz:Sl w (aD cb) [.slice eb en ec,vI (vs:Int),vI (B:Int)]) (eT:vs≤6):
  bI Tryz.prog 103 [(cW (aD cb) 0)] w fun v N=> ∃nb nc fb fc qs,v=.agg (dB (eo (vs:Int) true) nb nc fb fc).toArray∧N=[am nb nc 56 1 (bO qs),am fb fc 4 1 (bf (eo (vs:Int) true).ax)]++a_ 3 qs∧nums qs=(eo (vs:Int) true).next:=by
 refine aw func103 F ntmps103 F ?_
 obtain⟨L,hL⟩: ∃L,2^vs=L:=⟨_,F⟩
 have LA:L≤64:=by rw[←hL];exact Nat.pow_le_pow_right (by decide) eT
 refine ai (ak F (aR aY F (fun lX=>?_)))
 refine ae ?_
 refine e7 (fun ρ O=> ∃(zA zB zC:Nat),O=[am (aD zA) L 3 1 (List.replicate L (vI 0)),am (aD zB) 1 56 1 [(.slice (aD zA) L L)],am (aD zC) 1 4 1 [.bool true],oI lX 25 [vI ((vs:Nat):Int),(vI 0),(.slice (aD zB) 1 1),(.slice (aD zC) 1 1)]]∧cw [(0,(cW (aD cb) 0)),(2,(.pointer (aD lX)))] ρ) ?_ ?_
 ·refine ma [] 14 mixed F (by exact Sub.z) (fun _ _ _ _ h=>h) ?_
  refine bF 0 F (by kernel_rfl) (az F) ?_
  refine bF 1 F (by kernel_rfl) (aK F) ?_
  refine bF 2 F (by kernel_rfl) (br iR F aO F F (ay dz) (by first|omega|(simp;done)|(simp;omega)|(simp_all;done)|(simp_all;omega))) ?_
  refine bF 3 F (by kernel_rfl) (cd cS F F (ay dz) F) ?_
  refine bF 4 F (by kernel_rfl) (az F) ?_
  refine bF 5 F (by kernel_rfl) (aK F) ?_
  refine bF 6 F (by kernel_rfl) (br iR F aO F F (ay dz) (by first|omega|(simp;done)|(simp;omega)|(simp_all;done)|(simp_all;omega))) ?_
  refine bF 7 F (by kernel_rfl) (cd cS F F (ay dz) F) ?_
  refine bF 8 F (by kernel_rfl) (a7 (kV (v:=vs) F F (by omega)) (v':=vI ((L:Nat):Int)) (by rw[hL])) ?_
  refine aM [9,11] (by kernel_rfl) F ⟨⟨_,F,F,bX (m:=L) bK aO F F (by omega) (by omega) (fun zA=>⟨by exact Sub.z,?_⟩)⟩,⟨_,F,F,bM (v:=.bool true) df dU F F F (fun zC=>⟨by exact Sub.z,?_⟩)⟩,trivial⟩
  ·refine aM [10,11] (by kernel_rfl) F ⟨⟨_,F,F,bM (v:=(.slice (aD zA) L L)) du bV F F F (fun zB=>⟨by exact Sub.z,?_⟩)⟩,⟨_,F,F,bM (v:=.bool true) df dU F F F (fun zC=>⟨by exact Sub.z,?_⟩)⟩,trivial⟩
   ·refine aM [11] (by kernel_rfl) F ⟨⟨_,F,F,bM (v:=.bool true) df dU F F F (fun zC=>⟨by exact Sub.z,?_⟩)⟩,trivial⟩
    refine bF 12 F (by kernel_rfl) (bG (cs:=[vI ((vs:Nat):Int),(vI 0),(.slice (aD zB) 1 1),(.slice (aD zC) 1 1)]) gD aY (by kernel_rfl)) ?_
    refine aM [13] (by kernel_rfl) F ⟨⟨_,F,F,a8 (vs:=[vI ((vs:Nat):Int),(vI 0),(.slice (aD zB) 1 1),(.slice (aD zC) 1 1)]) 3 aY F F F F ⟨by exact Sub.z,?_⟩⟩,trivial⟩
    exact cz (by kernel_rfl) ⟨zA,zB,zC,F,⟨F,F,trivial⟩⟩ (by exact Sub.dr [am (aD zC) 1 4 1 [.bool true],am (aD zB) 1 56 1 [(.slice (aD zA) L L)]] _ (.dr [am (aD zC) 1 4 1 [.bool true]] _ (.k (.k .z))))
   refine aM [10] (by kernel_rfl) F ⟨⟨_,F,F,bM (v:=(.slice (aD zA) L L)) du bV F F F (fun zB=>⟨by exact Sub.z,?_⟩)⟩,trivial⟩
   refine bF 12 F (by kernel_rfl) (bG (cs:=[vI ((vs:Nat):Int),(vI 0),(.slice (aD zB) 1 1),(.slice (aD zC) 1 1)]) gD aY (by kernel_rfl)) ?_
   refine aM [13] (by kernel_rfl) F ⟨⟨_,F,F,a8 (vs:=[vI ((vs:Nat):Int),(vI 0),(.slice (aD zB) 1 1),(.slice (aD zC) 1 1)]) 3 aY F F F F ⟨by exact Sub.z,?_⟩⟩,trivial⟩
   exact cz (by kernel_rfl) ⟨zA,zB,zC,F,⟨F,F,trivial⟩⟩ (by exact Sub.dr [am (aD zB) 1 56 1 [(.slice (aD zA) L L)],am (aD zC) 1 4 1 [.bool true]] _ (.k (.k (.k .z))))
  refine aM [9] (by kernel_rfl) F ⟨⟨_,F,F,bX (m:=L) bK aO F F (by omega) (by omega) (fun zA=>⟨by exact Sub.z,?_⟩)⟩,trivial⟩
  refine aM [10] (by kernel_rfl) F ⟨⟨_,F,F,bM (v:=(.slice (aD zA) L L)) du bV F F F (fun zB=>⟨by exact Sub.z,?_⟩)⟩,trivial⟩
  refine bF 12 F (by kernel_rfl) (bG (cs:=[vI ((vs:Nat):Int),(vI 0),(.slice (aD zB) 1 1),(.slice (aD zC) 1 1)]) gD aY (by kernel_rfl)) ?_
  refine aM [13] (by kernel_rfl) F ⟨⟨_,F,F,a8 (vs:=[vI ((vs:Nat):Int),(vI 0),(.slice (aD zB) 1 1),(.slice (aD zC) 1 1)]) 3 aY F F F F ⟨by exact Sub.z,?_⟩⟩,trivial⟩
  exact cz (by kernel_rfl) ⟨zA,zB,zC,F,⟨F,F,trivial⟩⟩ (by exact Sub.dr [am (aD zB) 1 56 1 [(.slice (aD zA) L L)]] _ (.k (.k (.k .z))))
 rintro ρ O ⟨zA,zB,zC,rfl,hH⟩
 obtain⟨fE,rfl⟩:=hH.elim
 clear hH
 refine aA (ap ?_)
 refine bL (i:=3) Tryz.results103 bW F aY F F F ?_
 exact⟨[am (aD zB) 1 56 1 (bO [⟨(aD zA),L,List.replicate L 0⟩]),am (aD zC) 1 4 1 (bf [true])]++a_ 3 [⟨(aD zA),L,List.replicate L 0⟩],by rw[show a_ 3 [(⟨(aD zA),L,List.replicate L 0⟩:Rec)]=[am (aD zA) L 3 1 (List.replicate L (vI 0))] by simp[a_,Rec.qG],show bO [(⟨(aD zA),L,List.replicate L 0⟩:Rec)]=[(.slice (aD zA) L L)] by simp[Rec.val]];exact(by exact Sub.dr [am (aD zA) L 3 1 (List.replicate L (vI 0))] _ (.dr [am (aD zA) L 3 1 (List.replicate L (vI 0))] _ (.k .z))),(aD zB),1,(aD zC),1,[⟨(aD zA),L,List.replicate L 0⟩],F,F,by rw[←hL];rfl⟩
theorem Kt (w:World) [cG Tryz.prog w] (cb:Nat) (eb:Option Addr) (en ec vs B:Nat) (dz:Sl w (aD cb) [.slice eb en ec,vI (vs:Int),vI (B:Int)]) (eT:vs≤6):
  bI Tryz.prog 103 [(cW (aD cb) 0)] w fun v N=> ∃k,v=dV (eo (vs:Int) true) k∧N=[dI 56 4 3 (eo (vs:Int) true) k]:=
 bm.dk (g:=id) (WT w cb eb en ec vs B dz eT)
theorem Ii (w:World) [cG Tryz.prog w] (cb:Nat) (eb:Option Addr) (en ec vs B:Nat) (dz:Sl w (aD cb) [.slice eb en ec,vI (vs:Int),vI (B:Int)]) (eT:vs≤6) (gn:1≤B) (hB:B≤4096) (n op pp pn:Nat) (pa pb:Int) (hn:n≤1) (KV:pp<256) (nK:pn<256):
  cB Tryz.prog w (.iface 163 (.agg #[])) 104 [(cW (aD cb) 0),vI ((n:Nat):Int),(.agg #[v8 op,v8 pp,v8 pn,vI pa,vI pb])] [] (fun v N=> ∃M k',v=dV M k'∧N=[dI 56 4 3 M k']∧eF (vs:Int) B M (FJ n (ft pp pn))∧(gJ (CB vs n (ft pp pn))).next.length≤B) (¬(gJ (CB vs n (ft pp pn))).next.length≤B):=by
 refine cJ func104 F ntmps104 F ?_
 obtain⟨L,hL⟩: ∃L,2^vs=L:=⟨_,F⟩
 have LA:L≤64:=by rw[←hL];exact Nat.pow_le_pow_right (by decide) eT
 refine ai (ak F (cH (cs:=[v8 op,v8 pp,v8 pn,vI pa,vI pb]) F F (fun z1=>?_)))
 refine ak F (aR aY F (fun z2=>?_))
 refine ae (ai (ah F (ad (cx (a:=n) (b:=1) F F (by omega)) (aj F (ae ?_)))))
 refine e7 (fun ρ O=> ∃(zF zd:Nat),O=[am (aD zF) (n+2) 4 1 (List.replicate (n+2) (.bool false)),oI zd 25 [vI ((vs:Nat):Int),(vI 0),nS,(.slice (aD zF) (n+2) (n+2))],oI z2 25 [(vI 0),(vI 0),nS,nS],oI z1 72 [v8 op,v8 pp,v8 pn,vI pa,vI pb]]∧cw [(0,(cW (aD cb) 0)),(1,vI ((n:Nat):Int)),(2,(.agg #[v8 op,v8 pp,v8 pn,vI pa,vI pb])),(5,(.pointer (aD z1))),(6,(.pointer (aD z2))),(7,vI ((n+1:Nat):Int)),(8,(.pointer (aD zd)))] ρ) ?_ ?_
 ·refine ma [] 10 mixed F (by exact Sub.z) (fun _ _ _ _ h=>h) ?_
  refine bF 0 F (by kernel_rfl) (az F) ?_
  refine bF 1 F (by kernel_rfl) (aK F) ?_
  refine bF 2 F (by kernel_rfl) (br iR F aO F F (ay dz) (by first|omega|(simp;done)|(simp;omega)|(simp_all;done)|(simp_all;omega))) ?_
  refine bF 3 F (by kernel_rfl) (cd cS F F (ay dz) F) ?_
  refine bF 4 F (by kernel_rfl) (az F) ?_
  refine bF 5 F (by kernel_rfl) (cx (a:=n) (b:=2) F F (by omega)) ?_
  refine aM [6,8] (by kernel_rfl) F ⟨⟨_,F,F,bX (m:=n+2) df dU F F (by omega) (by omega) (fun zF=>⟨by exact Sub.z,?_⟩)⟩,⟨_,F,F,aR aY F (fun zd=>⟨by exact Sub.z,?_⟩)⟩,trivial⟩
  ·refine bF 7 F (by kernel_rfl) (bG (cs:=[vI ((vs:Nat):Int),(vI 0),nS,(.slice (aD zF) (n+2) (n+2))]) gD aY (by kernel_rfl)) ?_
   refine aM [8] (by kernel_rfl) F ⟨⟨_,F,F,aR aY F (fun zd=>⟨by exact Sub.z,?_⟩)⟩,trivial⟩
   refine aM [9] (by kernel_rfl) F ⟨⟨_,F,F,a8 (vs:=[vI ((vs:Nat):Int),(vI 0),nS,(.slice (aD zF) (n+2) (n+2))]) 0 aY F F F F ⟨by exact Sub.z,?_⟩⟩,trivial⟩
   exact cz (by kernel_rfl) ⟨zF,zd,F,(.of F)⟩ (by exact Sub.dr [oI zd 25 [vI ((vs:Nat):Int),(vI 0),nS,(.slice (aD zF) (n+2) (n+2))]] _ (.k (.k (.k .z))))
  refine aM [6] (by kernel_rfl) F ⟨⟨_,F,F,bX (m:=n+2) df dU F F (by omega) (by omega) (fun zF=>⟨by exact Sub.z,?_⟩)⟩,trivial⟩
  refine bF 7 F (by kernel_rfl) (bG (cs:=[vI ((vs:Nat):Int),(vI 0),nS,(.slice (aD zF) (n+2) (n+2))]) gD aY (by kernel_rfl)) ?_
  refine aM [9] (by kernel_rfl) F ⟨⟨_,F,F,a8 (vs:=[vI ((vs:Nat):Int),(vI 0),nS,(.slice (aD zF) (n+2) (n+2))]) 1 aY F F F F ⟨by exact Sub.z,?_⟩⟩,trivial⟩
  exact cz (by kernel_rfl) ⟨zF,zd,F,(.of F)⟩ (by exact Sub.rf)
 rintro ρ O ⟨zF,zd,rfl,hH⟩
 obtain⟨fE,rfl⟩:=hH.elim
 clear hH
 refine ai (ad (aN bW F cA F F) (ad (aQ 1 df F F F F) (ah F (ad (cV (i:=n) df dU F F (cP (mG 0 F)) (by omega) (by simp)) (ak F (lB (j:=n) (v:=.bool true) (vs:=[(.bool true)]) (cs:=List.replicate (n+2) (.bool false)) 0 dU F F F F F (by simp) F (by simp;try omega) ?_))))))
 refine cQ (O':=[am (aD zF) (n+2) 4 1 ((List.replicate (n+2) (.bool false)).set n (.bool true)),oI zd 25 [vI ((vs:Nat):Int),(vI 0),nS,(.slice (aD zF) (n+2) (n+2))],oI z2 25 [(vI 0),(vI 0),nS,nS],oI z1 72 [v8 op,v8 pp,v8 pn,vI pa,vI pb]]) (by rw[show dK (List.replicate (n+2) (.bool false)) n [(.bool true)]=(List.replicate (n+2) (.bool false)).set n (.bool true)from(by simp[dK])];exact bn (List.Sublist.refl _)) ?_
 refine ae (aB (ai (ah F (ad (cx (a:=n) (b:=2) F F (by omega)) (ah F (ae (aG (T.dJ 56 1 ?_))))))))
 refine ck (O':=[am none 0 56 1 [],am (aD zF) (n+2) 4 1 ((List.replicate (n+2) (.bool false)).set n (.bool true)),oI zd 25 [vI ((vs:Nat):Int),(vI 0),nS,(.slice (aD zF) (n+2) (n+2))],oI z2 25 [(vI 0),(vI 0),nS,nS],oI z1 72 [v8 op,v8 pp,v8 pn,vI pa,vI pb]]++a_ 3 []) ((ar [0,0,0,0,0] F)) ?_
 refine cM (fun(s:Nat) ρ O=> ∃(rq:List Rec) (ob:Option Addr) (oc:Nat),O=([am ob oc 56 1 (bO rq),am (aD zF) (n+2) 4 1 ((List.replicate (n+2) (.bool false)).set n (.bool true)),oI zd 25 [vI ((vs:Nat):Int),(vI 0),(.slice ob s oc),(.slice (aD zF) (n+2) (n+2))],oI z2 25 [(vI 0),(vI 0),nS,nS],oI z1 72 [v8 op,v8 pp,v8 pn,vI pa,vI pb]]++(a_ 3 rq))∧s≤n+2∧nums rq=(List.range s).map (tn L n (ft pp pn))∧cw [(0,(cW (aD cb) 0)),(1,vI ((n:Nat):Int)),(2,(.agg #[v8 op,v8 pp,v8 pn,vI pa,vI pb])),(5,(.pointer (aD z1))),(6,(.pointer (aD z2))),(7,vI ((n+1:Nat):Int)),(8,(.pointer (aD zd))),(27,vI ((n+2:Nat):Int)),(28,vI ((s:Nat):Int))] ρ) (fun s=>n+2-s) 0 ?_ ?_
 ·exact⟨[],none,0,F,by omega,F,(.of F)⟩
 rintro s ρ O ⟨rq,ob,oc,rfl,hs,WU,hH⟩
 obtain⟨fE,rfl⟩:=hH.elim
 clear hH
 have E8:rq.length=s:=by have:=congrArg List.length WU;simpa using this
 refine ai (ad (bT F F) (ae (aB (aC F (fun hc=>?_) (fun hc=>?_)))))
 ·have Tq:s<n+2:=by omega
  refine av (aB (aG (ai (ah F (aj F (ae (ai (ah F (ad (aK F) (ad (br iR F aO F F (ay dz) (by first|omega|(simp;done)|(simp;omega)|(simp_all;done)|(simp_all;omega))) (ad (cd cS F F (ay dz) F) (ad (a7 (kV (v:=vs) F F (by omega)) (v':=vI ((L:Nat):Int)) (by rw[hL])) (ak F (bX (m:=L) bK aO F F (by omega) (by omega) (fun z3=>?_)))))))))))))))
  refine aj F (ae (aB (ai (ah F (ad (bS bK F) (ah F (ae (aG ?_))))))))
  refine cM (fun(x:Nat) ρ O=> ∃(ys:List Int),O=([am (aD z3) L 3 1 (ints ys),am ob oc 56 1 (bO rq),am (aD zF) (n+2) 4 1 ((List.replicate (n+2) (.bool false)).set n (.bool true)),oI zd 25 [vI ((vs:Nat):Int),(vI 0),(.slice ob s oc),(.slice (aD zF) (n+2) (n+2))],oI z2 25 [(vI 0),(vI 0),nS,nS],oI z1 72 [v8 op,v8 pp,v8 pn,vI pa,vI pb]]++(a_ 3 rq))∧x≤L∧ys.length=L∧(∀i,i<x→ys[i]? =some (Nx n (ft pp pn) s i))∧cw [(0,(cW (aD cb) 0)),(1,vI ((n:Nat):Int)),(2,(.agg #[v8 op,v8 pp,v8 pn,vI pa,vI pb])),(5,(.pointer (aD z1))),(6,(.pointer (aD z2))),(7,vI ((n+1:Nat):Int)),(8,(.pointer (aD zd))),(9,vI ((s:Nat):Int)),(10,(.slice (aD z3) L L)),(27,vI ((n+2:Nat):Int)),(28,vI ((s:Nat):Int)),(38,vI (L:Int)),(39,vI ((x:Nat):Int))] ρ) (fun x=>L-x) 0 ?_ ?_
  ·exact⟨List.replicate L 0,by simp,Nat.zero_le _,by simp,fun i hi=>absurd hi (by omega),(.of F)⟩
  rintro x ρ O ⟨ys,rfl,hx,wD,tW,hH⟩
  obtain⟨fE,rfl⟩:=hH.elim
  clear hH
  refine ai (ad (bT F F) (ae (aB (aC F (fun hc=>?_) (fun hc=>?_)))))
  ·have tp:x<L:=by omega
   refine av (aB (aG (ai (ah F (aj F (ae (ai (ah F (ah F (ah F (ad (cV (i:=x) bK aO F F (cP (mG 0 F)) (by omega) (by rw[List.length_map];omega)) (ak F (lB (j:=x) (v:=vI ((n+1:Nat):Int)) (vs:=[(vI ((n+1:Nat):Int))]) (cs:=ints ys) 0 aO F F F F F (by simp) F (by first|(simp;omega)|(simp_all;omega)) ?_)))))))))))))
   refine cQ (O':=([am (aD z3) L 3 1 (ints (ys.set x ((n+1:Nat):Int))),am ob oc 56 1 (bO rq),am (aD zF) (n+2) 4 1 ((List.replicate (n+2) (.bool false)).set n (.bool true)),oI zd 25 [vI ((vs:Nat):Int),(vI 0),(.slice ob s oc),(.slice (aD zF) (n+2) (n+2))],oI z2 25 [(vI 0),(vI 0),nS,nS],oI z1 72 [v8 op,v8 pp,v8 pn,vI pa,vI pb]]++(a_ 3 rq))) (by rw[show dK (ints ys) x [(vI ((n+1:Nat):Int))]=ints (ys.set x ((n+1:Nat):Int))from(by simp[dK])];exact bn (List.Sublist.refl _)) ?_
   refine ae (ai (ah F (ah F ?_)))
   by_cases pm:((s:Nat):Int)<((n:Nat):Int)
   ·refine ad (aq (bT F F) (decide_eq_true pm)) ?_
    refine ah F (au F F (aN bs F cI F F) (au F F (aQ 5 eu F F F F) (au F F (aN bs F cI F F) (au F F (aQ 5 eu F F F F) (au F F (bG (cs:=[v8 pp,v8 pn]) gM eO (by kernel_rfl)) (au F F (az F) (au F F (et cS eu F (ny (by omega))) ?_)))))))
    refine fU F F F (aP PI (aI fun w1 hI=>(haveI:=di hI;WS w1 pp pn x KV nK (by omega))) F ?_)
    rintro vr O' ⟨N,rfl,rfl,rfl⟩
    refine ad (bu F F) (ae (T.cond F (fun hc=>?_) (fun hc=>?_)))
    ·refine aJ ?_
     refine ah F (ah F (ah F (ad (cx (a:=s) (b:=1) F F (by omega)) (ad (cV (i:=x) bK aO F F (cP (mG 0 F)) (by omega) (by first|(simp;done)|(simp;omega))) (ak F (lB (j:=x) (v:=vI ((s+1:Nat):Int)) (vs:=[(vI ((s+1:Nat):Int))]) (cs:=ints (ys.set x ((n+1:Nat):Int))) 0 aO F F F F F (by simp) F (by first|(simp;omega)|(simp_all;omega)) ?_))))))
     refine cQ (O':=([am (aD z3) L 3 1 (ints ((ys.set x ((n+1:Nat):Int)).set x ((s+1:Nat):Int))),am ob oc 56 1 (bO rq),am (aD zF) (n+2) 4 1 ((List.replicate (n+2) (.bool false)).set n (.bool true)),oI zd 25 [vI ((vs:Nat):Int),(vI 0),(.slice ob s oc),(.slice (aD zF) (n+2) (n+2))],oI z2 25 [(vI 0),(vI 0),nS,nS],oI z1 72 [v8 op,v8 pp,v8 pn,vI pa,vI pb]]++(a_ 3 rq))) (by rw[show dK (ints (ys.set x ((n+1:Nat):Int))) x [(vI ((s+1:Nat):Int))]=ints ((ys.set x ((n+1:Nat):Int)).set x ((s+1:Nat):Int))from(by simp[dK])];exact bn (List.Sublist.refl _)) ?_
     refine ae (aJ (ad (cx (a:=x) (b:=1) F F (by omega)) (ah F (ae ?_))))
     have hv:Nx n (ft pp pn) s x=((s+1:Nat):Int):=if_pos ⟨by omega,by first|exact hc|simpa using hc⟩
     exact⟨x+1,by omega,([am (aD z3) L 3 1 (ints ((ys.set x ((n+1:Nat):Int)).set x ((s+1:Nat):Int))),am ob oc 56 1 (bO rq),am (aD zF) (n+2) 4 1 ((List.replicate (n+2) (.bool false)).set n (.bool true)),oI zd 25 [vI ((vs:Nat):Int),(vI 0),(.slice ob s oc),(.slice (aD zF) (n+2) (n+2))],oI z2 25 [(vI 0),(vI 0),nS,nS],oI z1 72 [v8 op,v8 pp,v8 pn,vI pa,vI pb]]++(a_ 3 rq)),(by exact Sub.rf),((ys.set x ((n+1:Nat):Int)).set x ((s+1:Nat):Int)),F,by omega,by simp[wD],fun i hi=>by
      by_cases e:i=x
      ·subst e;rw[hv,List.getElem?_set_self (by first|omega|(simp;omega))]
      ·rw[List.getElem?_set_ne (fun h=>e h.symm)];first|exact tW i (by omega)|(rw[List.getElem?_set_ne (fun h=>e h.symm)];exact tW i (by omega)),(.of F)⟩
    refine av (aJ (ad (cx (a:=x) (b:=1) F F (by omega)) (ah F (ae ?_))))
    have hv:Nx n (ft pp pn) s x=((n+1:Nat):Int):=if_neg (fun h9=>by first|omega|(have h8:=h9.2;simp_all;done))
    exact⟨x+1,by omega,([am (aD z3) L 3 1 (ints (ys.set x ((n+1:Nat):Int))),am ob oc 56 1 (bO rq),am (aD zF) (n+2) 4 1 ((List.replicate (n+2) (.bool false)).set n (.bool true)),oI zd 25 [vI ((vs:Nat):Int),(vI 0),(.slice ob s oc),(.slice (aD zF) (n+2) (n+2))],oI z2 25 [(vI 0),(vI 0),nS,nS],oI z1 72 [v8 op,v8 pp,v8 pn,vI pa,vI pb]]++(a_ 3 rq)),(by exact Sub.rf),(ys.set x ((n+1:Nat):Int)),F,by omega,by simp[wD],fun i hi=>by
     by_cases e:i=x
     ·subst e;rw[hv,List.getElem?_set_self (by first|omega|(simp;omega))]
     ·rw[List.getElem?_set_ne (fun h=>e h.symm)];first|exact tW i (by omega)|(rw[List.getElem?_set_ne (fun h=>e h.symm)];exact tW i (by omega)),(.of F)⟩
   refine ad (aq (bT F F) (decide_eq_false pm)) (ah F (aF F F (aF F F (aF F F (aF F F (aF F F (aF F F (aF F F ?_))))))))
   refine aF F F (ad (bl F F) (ae (aL F (av (aJ (ad (cx (a:=x) (b:=1) F F (by omega)) (ah F (ae ?_))))))))
   have hv:Nx n (ft pp pn) s x=((n+1:Nat):Int):=if_neg (fun h9=>by first|omega|(have h8:=h9.2;simp_all;done))
   exact⟨x+1,by omega,([am (aD z3) L 3 1 (ints (ys.set x ((n+1:Nat):Int))),am ob oc 56 1 (bO rq),am (aD zF) (n+2) 4 1 ((List.replicate (n+2) (.bool false)).set n (.bool true)),oI zd 25 [vI ((vs:Nat):Int),(vI 0),(.slice ob s oc),(.slice (aD zF) (n+2) (n+2))],oI z2 25 [(vI 0),(vI 0),nS,nS],oI z1 72 [v8 op,v8 pp,v8 pn,vI pa,vI pb]]++(a_ 3 rq)),(by exact Sub.rf),(ys.set x ((n+1:Nat):Int)),F,by omega,by simp[wD],fun i hi=>by
    by_cases e:i=x
    ·subst e;rw[hv,List.getElem?_set_self (by first|omega|(simp;omega))]
    ·rw[List.getElem?_set_ne (fun h=>e h.symm)];first|exact tW i (by omega)|(rw[List.getElem?_set_ne (fun h=>e h.symm)];exact tW i (by omega)),(.of F)⟩
  have Ij: ¬x<L:=by omega
  refine bJ ?_
  refine aJ (ad (aN bW F dM F F) (ad (aQ 3 du F F F F) (ah F (ak F (bM (v:=(.slice (aD z3) L L)) du bV F F F (fun z4=>?_))))))
  refine ak F (bY 2 du du bV F F F F (by simp;omega) (by decide) (Src.row (j:=0) F (by simp)) (by simp[dS]) (by omega) (by decide) (by decide) (fun z5 Ny=>?_))
  refine ad (aN bW F dM F F) (ak F (a8 (vs:=[(.slice z5 (s+1) Ny)]) 4 dM F F F F ?_))
  refine ae ?_
  refine ck (O':=[am z5 Ny 56 1 (bO (rq++[⟨(aD z3),L,ys⟩])),am (aD zF) (n+2) 4 1 ((List.replicate (n+2) (.bool false)).set n (.bool true)),oI zd 25 [vI ((vs:Nat):Int),(vI 0),(.slice z5 (s+1) Ny),(.slice (aD zF) (n+2) (n+2))],oI z2 25 [(vI 0),(vI 0),nS,nS],oI z1 72 [v8 op,v8 pp,v8 pn,vI pa,vI pb]]++a_ 3 (rq++[⟨(aD z3),L,ys⟩])) (by
   rw[show bO (rq++[⟨(aD z3),L,ys⟩])=(bO rq)++[(.slice (aD z3) L L)] by simp[Rec.val,wD],show a_ 3 (rq++[⟨(aD z3),L,ys⟩])=a_ 3 rq++[am (aD z3) L 3 1 (ints ys)] by simp[a_,Rec.qG]]
   exact AM [am z5 Ny 56 1 ((bO rq)++[(.slice (aD z3) L L)]),am (aD zF) (n+2) 4 1 ((List.replicate (n+2) (.bool false)).set n (.bool true)),oI zd 25 [vI ((vs:Nat):Int),(vI 0),(.slice z5 (s+1) Ny),(.slice (aD zF) (n+2) (n+2))],oI z2 25 [(vI 0),(vI 0),nS,nS],oI z1 72 [v8 op,v8 pp,v8 pn,vI pa,vI pb]] [am (aD z4) 1 56 1 [(.slice (aD z3) L L)],am (aD z3) L 3 1 (ints ys),am z5 Ny 56 1 ((bO rq)++[(.slice (aD z3) L L)]),am (aD zF) (n+2) 4 1 ((List.replicate (n+2) (.bool false)).set n (.bool true)),oI zd 25 [vI ((vs:Nat):Int),(vI 0),(.slice z5 (s+1) Ny),(.slice (aD zF) (n+2) (n+2))],oI z2 25 [(vI 0),(vI 0),nS,nS],oI z1 72 [v8 op,v8 pp,v8 pn,vI pa,vI pb]] (a_ 3 rq) (am (aD z3) L 3 1 (ints ys)) (by exact Sub.d (.dr [am (aD z3) L 3 1 (ints ys)] _ (.dr [am (aD z3) L 3 1 (ints ys)] _ (.dr [am (aD z3) L 3 1 (ints ys)] _ (.dr [am (aD z3) L 3 1 (ints ys)] _ (.dr [am (aD z3) L 3 1 (ints ys)] _ (.k .z)))))))) ?_
  refine aJ (ad (cx (a:=s) (b:=1) F F (by omega)) (ah F (ae ?_)))
  have AH:x=L:=by omega
  have LB:ys=tn L n (ft pp pn) s:=by
   apply List.ext_getElem?
   intro i
   by_cases hi:i<L
   ·rw[tW i (by omega)];simp only[tn];simp[hi]
   ·rw[List.getElem?_eq_none (by omega),List.getElem?_eq_none (by simp[tn];omega)]
  exact⟨s+1,by omega,_,bn (List.Sublist.refl _),rq++[⟨(aD z3),L,ys⟩],z5,Ny,F,by omega,by rw[List.range_succ,List.map_append,←WU];simp[nums,LB],(.of F)⟩
 have Tr: ¬s<n+2:=by omega
 refine bJ ?_
 refine aB ?_
 have H2:s=n+2:=by omega
 obtain⟨W,hW⟩: ∃W,W=CB vs n (ft pp pn):=⟨_,F⟩
 have yz:HasL (vs:Int) 3 W (FJ n (ft pp pn)):=hW▸ug _ eT hn
 have e1:nums rq=W.next:=by rw[hW,WU,H2,←hL];rfl
 have e2:(List.replicate (n+2) (.bool false)).set n (.bool true)=bf W.ax:=by rw[hW];show _=bf ((List.replicate (n+2) false).set n true);simp
 have e3:(vs:Int)=W.vars:=by rw[hW];rfl
 have e4:(0:Int)=W.start:=by rw[hW];rfl
 have e5:s=W.next.length:=by rw[←e1,←E8];simp
 have e6:n+2=W.ax.length:=by rw[yz.valid.fin,←e5,H2]
 obtain⟨M,hM⟩: ∃m,gJ W=m:=⟨_,F⟩
 have DZ:eF (vs:Int) 3 M (FJ n (ft pp pn)):=hM▸yz.qL
 obtain⟨z9,Pp⟩: ∃z:DK,z=⟨ob,oc,(aD zF),n+2,rq⟩:=⟨_,F⟩
 refine ck (O':=([am ob oc 56 1 (bO rq),am (aD zF) (n+2) 4 1 ((List.replicate (n+2) (.bool false)).set n (.bool true)),oI zd 25 [vI ((vs:Nat):Int),(vI 0),(.slice ob s oc),(.slice (aD zF) (n+2) (n+2))],oI z2 25 [(vI 0),(vI 0),nS,nS],oI z1 72 [v8 op,v8 pp,v8 pn,vI pa,vI pb]]++a_ 3 rq)) Sub.rf ?_
 refine ck (O':=(([am ob oc 56 1 (bO rq),am (aD zF) (n+2) 4 1 (bf W.ax)]++a_ 3 rq)++[oI zd 25 [(vI W.vars),(vI W.start),(.slice ob W.next.length oc),(.slice (aD zF) W.ax.length (n+2))],oI z2 25 [(vI 0),(vI 0),nS,nS],oI z1 72 [v8 op,v8 pp,v8 pn,vI pa,vI pb]])) (by rw[←e5,←e6,←e2,←e3,←e4];exact eW [am ob oc 56 1 (bO rq),am (aD zF) (n+2) 4 1 ((List.replicate (n+2) (.bool false)).set n (.bool true))] (a_ 3 rq) [oI zd 25 [vI ((vs:Nat):Int),(vI 0),(.slice ob s oc),(.slice (aD zF) (n+2) (n+2))],oI z2 25 [(vI 0),(vI 0),nS,nS],oI z1 72 [v8 op,v8 pp,v8 pn,vI pa,vI pb]]) ?_
 refine ol (φ:=nums rq=W.next) e1 ?_
 refine ck (O':=[dI 56 4 3 W z9,oI zd 25 (dC W z9),oI z2 25 [(vI 0),(vI 0),nS,nS],oI z1 72 [v8 op,v8 pp,v8 pn,vI pa,vI pb]]) (by subst Pp;exact Sub.rf) ?_
 refine aJ (ah F (ad (dh 1 bW F aY F F F) (ak F (aP xo (aI fun w1 hI=>(haveI:=di hI;xp w1 W z9 (hI.at (k:=z9) (mG 0 F)) yz.valid (by have:=yz.valid.n4;omega) (M:=M) hM)) F ?_))))
 rintro vr O' ⟨N,rfl,k9,rfl,rfl⟩
 refine ad (aV (vs:=_) F F) (ad (aV (vs:=_) F F) ?_)
 have Ts:=fun(w1:World) (hI:Inv w [dI 56 4 3 M k9,dI 56 4 3 W z9,oI zd 25 (dC W z9),oI z2 25 [(vI 0),(vI 0),nS,nS],oI z1 72 [v8 op,v8 pp,v8 pn,vI pa,vI pb]] w1)=>(haveI:=di hI;kj w1 cb eb en ec vs B (hI.sl dz) M k9 0)
 refine de F (dA oL (cB.pure Ts) F (fun z _=>⟨F,fun h9=>z ⟨F,hM▸hW▸h9⟩⟩) ?_)
 clear Ts
 rintro vr O' ⟨N,rfl,rfl,rfl,_,vl⟩
 refine ak F (a8 (vs:=(dC M k9)) 3 aY F F F F ?_)
 refine ae (aA (ap ?_))
 refine bL (i:=3) Tryz.results104 bW F aY F F F ?_
 exact⟨[dI 56 4 3 M k9],(by exact Sub.k .z),M,k9,F,F,⟨DZ.toHasL.le vl,DZ.min⟩,by rw[←hW,hM];exact vl⟩
end Go.Proofs.YtgdbfideeeegmaaGreatDoor

namespace Go.Proofs
open Go.Shelf
def Tryz.tv:Go.Shelf.Ren:=⟨fun|189=>192|125=>159|257=>220|128=>208|129=>209|294=>245|295=>246|296=>247|297=>248|298=>249|299=>250|216=>221|300=>251|301=>252|328=>260|329=>226|330=>227|331=>261|332=>262|215=>240|343=>265|n=>n,fun|28=>56|3=>3|46=>101|0=>0|51=>254|53=>256|4=>4|183=>247|182=>246|131=>161|5=>5|9=>9|218=>268|222=>272|228=>289|229=>290|n=>n,fun|n=>n⟩
theorem Tryz.yI:Go.Proofs.Lays.n189 Tryz.prog Tryz.tv:= {
 mixed:=by kernel_rfl
 f125:=func159.trans (congrArg some (by kernel_rfl))
 f128:=func208.trans (congrArg some (by kernel_rfl))
 f129:=func209.trans (congrArg some (by kernel_rfl))
 f189:=func192.trans (congrArg some (by kernel_rfl))
 f215:=func240.trans (congrArg some (by kernel_rfl))
 f216:=func221.trans (congrArg some (by kernel_rfl))
 f257:=func220.trans (congrArg some (by kernel_rfl))
 f294:=func245.trans (congrArg some (by kernel_rfl))
 f295:=func246.trans (congrArg some (by kernel_rfl))
 f296:=func247.trans (congrArg some (by kernel_rfl))
 f297:=func248.trans (congrArg some (by kernel_rfl))
 f298:=func249.trans (congrArg some (by kernel_rfl))
 f299:=func250.trans (congrArg some (by kernel_rfl))
 f300:=func251.trans (congrArg some (by kernel_rfl))
 f301:=func252.trans (congrArg some (by kernel_rfl))
 f328:=func260.trans (congrArg some (by kernel_rfl))
 f329:=func226.trans (congrArg some (by kernel_rfl))
 f330:=func227.trans (congrArg some (by kernel_rfl))
 f331:=func261.trans (congrArg some (by kernel_rfl))
 f332:=func262.trans (congrArg some (by kernel_rfl))
 f343:=func265.trans (congrArg some (by kernel_rfl))
 t0:=underlying0
 a0:=Tryz.isAgg0
 z0:=Tryz.sizeOf0
 v0:=Tryz.zeroValue0
 t3:=underlying3
 a3:=Tryz.isAgg3
 z3:=Tryz.sizeOf3
 v3:=Tryz.zeroValue3
 t4:=underlying4
 a4:=Tryz.isAgg4
 z4:=Tryz.sizeOf4
 v4:=Tryz.zeroValue4
 t5:=underlying5
 a5:=Tryz.isAgg5
 z5:=Tryz.sizeOf5
 v5:=Tryz.zeroValue5
 t9:=underlying9
 a9:=Tryz.isAgg9
 z9:=Tryz.sizeOf9
 v9:=Tryz.zeroValue9
 t28:=underlying56
 a28:=Tryz.isAgg56
 z28:=Tryz.sizeOf56
 v28:=Tryz.zeroValue56
 t46:=underlying101
 a46:=Tryz.isAgg101
 z46:=Tryz.sizeOf101
 v46:=Tryz.zeroValue101
 t51:=underlying254
 a51:=Tryz.isAgg254
 z51:=Tryz.sizeOf254
 v51:=Tryz.zeroValue254
 t53:=underlying256
 a53:=Tryz.isAgg256
 z53:=Tryz.sizeOf256
 v53:=Tryz.zeroValue256
 t131:=underlying161
 a131:=Tryz.isAgg161
 z131:=Tryz.sizeOf161
 v131:=Tryz.zeroValue161
 t182:=underlying246
 a182:=Tryz.isAgg246
 z182:=Tryz.sizeOf246
 v182:=Tryz.zeroValue246
 t183:=underlying247
 a183:=Tryz.isAgg247
 z183:=Tryz.sizeOf247
 v183:=Tryz.zeroValue247
 t218:=underlying268
 a218:=Tryz.isAgg268
 z218:=Tryz.sizeOf268
 v218:=Tryz.zeroValue268
 t222:=underlying272
 a222:=Tryz.isAgg272
 z222:=Tryz.sizeOf272
 v222:=Tryz.zeroValue272
 t228:=underlying289
 a228:=Tryz.isAgg289
 z228:=Tryz.sizeOf289
 v228:=Tryz.zeroValue289
 t229:=underlying290
 a229:=Tryz.isAgg290
 z229:=Tryz.sizeOf290
 v229:=Tryz.zeroValue290}
open Go.RowKit Go.Sort Go.Lib in
theorem Tryz.slices_Sort_int (jH off cap:Nat) (zs:List Int) (w:World) (hH:Holds (Value.int .i64) w jH off zs.toArray) (QP:jH<w.heap.size) (rZ:zs.length<4611686018427387904):
  Calls Tryz.prog 192 #[.slice (some ⟨jH,off,none⟩) zs.length cap] w fun e w'=>
   e=.returned (.tuple #[])∧ ∃n os,w'=grow (putRow (Value.int .i64) (Sort.ahead w n) jH off (zs.mergeSort fun x y=>decide (x≤y)).toArray) os:=Any.slices_Sort_int Tryz.yI jH off cap zs w hH QP rZ
end Go.Proofs
namespace Go.Proofs.YtgdbfideeeegmaaGreatDoor
open Go.Lx Go.RowKit Go.Proofs Go.Sort _root_.Go.Proofs.Tryz
def Q9:Go.Shelf.Ren:=⟨fun|20=>193|n=>n,fun|0=>0|3=>3|4=>4|22=>56|40=>101|n=>n,fun|n=>n⟩
theorem EU:Go.Proofs.Lays2.n20 Tryz.prog Q9:= {
 mixed:=by kernel_rfl
 f20:=func193.trans (congrArg some (by kernel_rfl))
 t0:=underlying0
 a0:=Tryz.isAgg0
 z0:=Tryz.sizeOf0
 v0:=Tryz.zeroValue0
 t3:=underlying3
 a3:=Tryz.isAgg3
 z3:=Tryz.sizeOf3
 v3:=Tryz.zeroValue3
 t4:=underlying4
 a4:=Tryz.isAgg4
 z4:=Tryz.sizeOf4
 v4:=Tryz.zeroValue4
 t22:=underlying56
 a22:=Tryz.isAgg56
 z22:=Tryz.sizeOf56
 v22:=Tryz.zeroValue56
 i3:=by kernel_rfl
}
def Q_:Go.Shelf.Ren:=⟨fun|25=>197|31=>221|32=>222|37=>240|n=>n,fun|0=>0|3=>3|4=>4|22=>56|40=>101|n=>n,fun|n=>n⟩
theorem EV:Go.Proofs.Lays2.n25 Tryz.prog Q_:= {
 mixed:=by kernel_rfl
 f25:=func197.trans (congrArg some (by kernel_rfl))
 f31:=func221.trans (congrArg some (by kernel_rfl))
 f32:=func222.trans (congrArg some (by kernel_rfl))
 f37:=func240.trans (congrArg some (by kernel_rfl))
 t0:=underlying0
 a0:=Tryz.isAgg0
 z0:=Tryz.sizeOf0
 v0:=Tryz.zeroValue0
 t3:=underlying3
 a3:=Tryz.isAgg3
 z3:=Tryz.sizeOf3
 v3:=Tryz.zeroValue3
 t4:=underlying4
 a4:=Tryz.isAgg4
 z4:=Tryz.sizeOf4
 v4:=Tryz.zeroValue4
 t22:=underlying56
 a22:=Tryz.isAgg56
 z22:=Tryz.sizeOf56
 v22:=Tryz.zeroValue56
 t40:=underlying101
 a40:=Tryz.isAgg101
 z40:=Tryz.sizeOf101
 v40:=Tryz.zeroValue101
}
def y_:Go.Shelf.Ren:=⟨fun|21=>198|27=>223|28=>224|35=>253|39=>263|n=>n,fun|0=>0|3=>3|4=>4|22=>56|40=>101|n=>n,fun|n=>n⟩
theorem uo:Go.Proofs.Lays2.n21 Tryz.prog y_:= {
 mixed:=by kernel_rfl
 f21:=func198.trans (congrArg some (by kernel_rfl))
 f27:=func223.trans (congrArg some (by kernel_rfl))
 f28:=func224.trans (congrArg some (by kernel_rfl))
 f35:=func253.trans (congrArg some (by kernel_rfl))
 f39:=func263.trans (congrArg some (by kernel_rfl))
 t0:=underlying0
 a0:=Tryz.isAgg0
 z0:=Tryz.sizeOf0
 v0:=Tryz.zeroValue0
 t3:=underlying3
 a3:=Tryz.isAgg3
 z3:=Tryz.sizeOf3
 v3:=Tryz.zeroValue3
 t4:=underlying4
 a4:=Tryz.isAgg4
 z4:=Tryz.sizeOf4
 v4:=Tryz.zeroValue4
 t22:=underlying56
 a22:=Tryz.isAgg56
 z22:=Tryz.sizeOf56
 v22:=Tryz.zeroValue56
 i3:=by kernel_rfl
}
def Ra:Go.Shelf.Ren:=⟨fun|15=>146|n=>n,fun|0=>0|3=>3|4=>4|22=>56|40=>101|n=>n,fun|n=>n⟩
theorem zg:Go.Proofs.Lays2.n15 Tryz.prog Ra:= {
 mixed:=by kernel_rfl
 f15:=func146.trans (congrArg some (by kernel_rfl))
 t3:=underlying3
 a3:=Tryz.isAgg3
 z3:=Tryz.sizeOf3
 v3:=Tryz.zeroValue3
 t4:=underlying4
 a4:=Tryz.isAgg4
 z4:=Tryz.sizeOf4
 v4:=Tryz.zeroValue4
 t22:=underlying56
 a22:=Tryz.isAgg56
 z22:=Tryz.sizeOf56
 v22:=Tryz.zeroValue56
 i3:=by kernel_rfl
}
theorem uq {base w:World} {O:List Lx.Item} {i c:Nat} {T:TypeId} {zs:List Int} (hI:Inv base O w) (hO:O[i]? =some (am none c T 1 (ints zs))):zs=[]∧c=0:=by
 have h:=hI.row hO
 exact⟨by have:=h.1;simpa using this,h.2⟩
theorem Te (base:World) (b:Option Addr) (c:Nat) (zs:List Int) (rZ:zs.length<4611686018427387904):bm Tryz.prog base 192 [.slice b zs.length c] [am b c 3 1 (ints zs)] (fun v O'=>v=.tuple #[]∧O'=[am b c 3 1 (ints (oG zs))]):=fun w M hI=>by
 have hO:(([am b c 3 1 (ints zs)]++M:List Lx.Item))[0]? =some (am b c 3 1 (ints zs)):=rfl
 cases b with
 |none=>
  obtain⟨rfl,rfl⟩:=uq hI hO
  refine(Any.slices_Sort_int_none Tryz.yI none 0 w).mono ?_
  rintro e w' ⟨rfl,rfl⟩
  refine⟨_,_,F,?_,F,F⟩
  have h9:oG []=[]:=by simp
  rw[h9];exact hI
 |some a=>
  obtain⟨jH,off,sp⟩:=a
  have wl:sp=none:=(hI.row hO).1
  subst wl
  obtain⟨hH,hb⟩:=xW hI hO
  refine(Tryz.slices_Sort_int jH off c zs w hH hb rZ).mono ?_
  rintro e w' ⟨rfl,n,os,rfl⟩
  refine⟨_,_,F,?_,F,F⟩
  exact hI.Jq (ys:=oG zs) hO (List.length_mergeSort zs) n os
theorem HY (base:World) (b:Option Addr) (c:Nat) (zs:List Int) (rZ:zs.length≤1000000):bm Tryz.prog base 193 [.slice b zs.length c] [am b c 3 1 (ints zs)] (fun v O'=>v=.slice b (Lib.compact zs).length c∧O'=[am b c 3 1 (ints (Lib.compact zs))]):=fun w M hI=>by
 have hO:(([am b c 3 1 (ints zs)]++M:List Lx.Item))[0]? =some (am b c 3 1 (ints zs)):=rfl
 cases b with
 |none=>
  obtain⟨rfl,rfl⟩:=uq hI hO
  refine(Any.slices_Compact_int_empty EU none 0 w).mono ?_
  rintro e w' ⟨rfl,rfl⟩
  refine⟨_,_,F,?_,F,F⟩
  have h9:Lib.compact ([]:List Int)=[]:=rfl
  rw[h9];exact hI
 |some a=>
  obtain⟨jH,off,sp⟩:=a
  have wl:sp=none:=(hI.row hO).1
  subst wl
  obtain⟨hH,hb⟩:=xW hI hO
  have KK:zs.length≤c:=by have:=(hI.row hO).2;obtain⟨_,_,h,_⟩:=this;simpa using h
  refine(Any.slices_Compact_int EU jH off c zs w hH (by omega) KK).mono ?_
  rintro e w' ⟨rfl,n,rfl⟩
  refine⟨_,_,F,?_,F,F⟩
  have Ds:=Lib.compact_length_le zs
  exact hI.F0 (ys:=Lib.compact zs) hO (by simp;omega) n
theorem Lv (w:World) (b:Option Addr) (c:Nat) (l:List Nat) (s:Nat) (hS:Sl w b (aX l)) (ha:l.Pairwise (· < ·)) (hb:l.length≤1000000):bI Tryz.prog 197 [.slice b l.length c,.int .i64 (s:Int)] w fun v N=>v=.tuple #[.int .i64 ((l.countP (· <s):Nat):Int),.bool (decide (s∈l))]∧N=[]:=fun w1 M hI=>by
 have RB:=hI.sl hS
 by_cases h0:l=[]
 ·subst h0
  exact(Any.slices_BinarySearch_int_empty EV b c (s:Int) w1).mono (by rintro e w' ⟨rfl,rfl⟩;exact⟨_,_,F,hI,F,F⟩)
 ·have Hc:0<(aX l).length:=by simp;exact List.length_pos_iff.2 h0
  obtain⟨bk,o,rfl⟩:=RB.addr Hc
  refine(Any.slices_BinarySearch_int EV bk o l.length c (l.map fun y:Nat=>(y:Int)) (s:Int) w1 (by simp) (by omega) (fun j hj=>?_) ?_).mono ?_
  ·have qj:j<l.length:=by simpa using hj
   rw[RB.get (i:=j) (v:=.int .i64 ((l[j]:Nat):Int)) (by simp[qj])]
   simp[List.getD_eq_getElem?_getD,qj]
  ·rw[List.take_of_length_le (by simp)]
   exact List.pairwise_map.2 (ha.imp fun h=>by omega)
  ·rintro e w' ⟨rfl,q,rfl⟩
   refine⟨_,_,F,hI.drewN q,?_,F⟩
   rw[List.take_of_length_le (by simp),List.countP_map]
   have e1:((fun x:Int=>decide (x<(s:Int)))∘fun y:Nat=>(y:Int))=fun y:Nat=>decide (y<s):=by funext y;simp
   have e2:(List.map (fun y:Nat=>(y:Int)) l).contains (s:Int)=decide (s∈l):=by
    rw[List.contains_eq_mem]
    exact decide_eq_decide.2 ⟨fun h=>(by obtain⟨y,hy,e⟩:=List.mem_map.1 h;have:y=s:=(by omega);exact this▸hy),fun h=>List.mem_map.2 ⟨s,h,F⟩⟩
   rw[e1,e2]
theorem H0 (w:World) (b:Option Addr) (c:Nat) (zs:List Int) (hS:Sl w b (ints zs)) (hz:zs.length≤1000000):bI Tryz.prog 146 [.slice b zs.length c] w fun v N=> ∃b' c',v=.slice b' zs.length c'∧N=[am b' c' 3 1 (ints zs)]∧c'≤9223372036854775807:=fun w1 M hI=>by
 have RB:=hI.sl hS
 have key: ∀(e:Ending) (w':World),(∃v':Value,e=.returned v'∧w'.ownsRow w1.heap.size 3 1 v' zs.length (ints zs)∧Below w1.heap.size w1 w')→ ∃(v:Value) (O':List Lx.Item),e=.returned v∧Inv w (O'++M) w'∧ ∃b' c',v=.slice b' zs.length c'∧O'=[am b' c' 3 1 (ints zs)]∧c'≤9223372036854775807:=by
  rintro e w' ⟨v',rfl,⟨hl,ho⟩,hB⟩
  rcases ho with⟨rfl,h0⟩|⟨g,cap,ZX,rfl,hg,hh,hn,hm,hs,ht⟩
  ·have Yj:zs=[]:=List.length_eq_zero_iff.1 h0
   subst Yj
   refine⟨_,_,F,?_,none,0,F,F,by omega⟩
   exact hI.new (N:=[am none 0 3 1 []]) hB.os hB.tape hB.output hB.size hB.block (by simp[am,rowP]) (by simp[am]) (by simp[am])
  ·refine⟨_,_,F,?_,some ⟨g,0,none⟩,cap,F,F,hm⟩
   have eV:=(Array.getElem?_eq_some_iff.1 hh).1
   refine hI.new (N:=[am (some ⟨g,0,none⟩) cap 3 1 (ints zs)]) hB.os hB.tape hB.output hB.size hB.block (fun it dZ=>?_) (fun it dZ k hk=>?_) (by simp[am])
   ·simp only[List.mem_singleton]at dZ;subst dZ
    refine⟨F,ZX,hh,by simp;omega,by show 0+cap*1≤_;omega,fun j hj=>?_⟩
    have h9:(ZX.toList.take (zs.length*1))[j]? =some (ints zs)[j]:=by rw[ht];exact List.getElem?_eq_getElem hj
    rw[List.getElem?_take,if_pos (by simpa using hj)]at h9
    simpa using h9
   ·simp only[List.mem_singleton]at dZ;subst dZ;simp[am]at hk;omega
 by_cases h0:b=none
 ·subst h0
  have Yj:zs=[]:=by
   cases zs with
   |nil=>rfl
   |cons z zs=>obtain⟨_,_,e⟩:=RB.addr (i:=0) (by simp);cases e
  subst Yj
  exact(Any.slices_Clone_int_nil zg _ c w1).mono fun e w' h=>key e w' (by obtain⟨h1,h2⟩:=h;subst h1 h2;exact⟨_,F,⟨by simp,.inl ⟨F,F⟩⟩,Below.refl _ _⟩)
 ·obtain⟨a,rfl⟩:=Option.ne_none_iff_exists'.1 h0
  by_cases hn:zs=[]
  ·subst hn
   exact(Any.slices_Clone_int_zero zg a c w1).mono fun e w' h=>key e w' (by obtain⟨v',h1,h2,h3,h4⟩:=h;exact⟨v',h1,h2,h4⟩)
  ·obtain⟨bk,o,rfl⟩: ∃bk o,a=⟨bk,o,none⟩:=by
    obtain⟨bk,o,e⟩:=RB.addr (i:=0) (by simp;exact List.length_pos_iff.2 hn)
    exact⟨bk,o,by simpa using e⟩
   refine(Any.slices_Clone_int zg bk o zs.length c zs w1 (by simp) (by omega) (fun j hj=>?_)).mono fun e w' h=>key e w' (by obtain⟨v',h1,h2,h3,h4⟩:=h;rw[List.take_length]at h2;exact⟨v',h1,h2,h4⟩)
   rw[RB.get (i:=j) (v:=.int .i64 zs[j]) (by simp[hj])]
   simp[List.getD_eq_getElem?_getD,hj]
theorem Ly (base:World) (b:Option Addr) (c i vb:Nat) (xs:List Int) (x:Int) (hi:i≤xs.length) (hx:xs.length≤1000000) (Vg:c≤9223372036854775807):bm Tryz.prog base 198 [.slice b xs.length c,.int .i64 ((i:Nat):Int),.slice (some ⟨vb,0,none⟩) 1 1] [am b c 3 1 (ints xs),am (some ⟨vb,0,none⟩) 1 3 1 [.int .i64 x]] (fun v O'=> ∃b' c',v=.slice b' (xs.length+1) c'∧O'=[am b' c' 3 1 (ints (xs.take i++x::xs.drop i))]):=fun w M hI=>by
 have hO:(([am b c 3 1 (ints xs),am (some ⟨vb,0,none⟩) 1 3 1 [.int .i64 x]]++M:List Lx.Item))[0]? =some (am b c 3 1 (ints xs)):=rfl
 have hV:(([am b c 3 1 (ints xs),am (some ⟨vb,0,none⟩) 1 3 1 [.int .i64 x]]++M:List Lx.Item))[1]? =some (am (some ⟨vb,0,none⟩) 1 3 1 [.int .i64 x]):=rfl
 obtain⟨_,vf,VV,_,hv2,hv3⟩:=hI.row hV
 have KC:vf[0]? =some (.int .i64 x):=hv3 0 (by simp)
 have eT: ∀j v,[Value.int .i64 x][j]? =some v→w.cell? ⟨vb,0+j,none⟩=some v:=fun j v h=>by
  cases j with
  |zero=>simp at h;subst h;simp[World.cell?,VV,KC]
  |succ j=>simp at h
 have VW: ∀v∈[Value.int .i64 x],v.oneCell'=true:=by simp[Value.oneCell']
 have ZY: ∀v∈ints xs,v.oneCell'=true:=fun v hv=>by obtain⟨y,_,rfl⟩:=List.mem_map.1 hv;rfl
 have gv:(ints (xs.take i++x::xs.drop i)).length=xs.length+1:=by simp;omega
 have wm: ∀(b':Option Addr) (c':Nat) (W:World),Inv base (am b' c' 3 1 (ints (xs.take i++x::xs.drop i))::am (some ⟨vb,0,none⟩) 1 3 1 [.int .i64 x]::M) W→Inv base ([am b' c' 3 1 (ints (xs.take i++x::xs.drop i))]++M) W:=fun b' c' W h=>
  h.iN ⟨_,List.Perm.refl _,List.Sublist.cons_cons _ (List.sublist_cons_self _ _)⟩
 have grown: ∀(W:World) (cc:Nat) (full:Array Value),W.os=w.os→W.tape=w.tape→W.output=w.output→W.heap.size=w.heap.size+1→(∀k,k<w.heap.size→W.heap[k]? =w.heap[k]?)→W.heap[w.heap.size]? =some (.cells full 3 (0,0))→xs.length+1≤cc→full.size=cc→(∀j,j<xs.length+1→full[j]? =(ints (xs.take i++x::xs.drop i))[j]?)→
   Inv base ([am (some ⟨w.heap.size,0,none⟩) cc 3 1 (ints (xs.take i++x::xs.drop i))]++M) W:=fun W cc full h1 h2 h3 h4 h5 h6 h7 h8 h9=>by
  have h:=hI.new (N:=[am (some ⟨w.heap.size,0,none⟩) cc 3 1 (ints (xs.take i++x::xs.drop i))]) h1 h2 h3 (by omega) h5 (fun it dZ=>by
   simp only[List.mem_singleton]at dZ;subst dZ
   exact⟨F,full,h6,by rw[gv];omega,by show 0+cc*1≤_;omega,fun j hj=>by
    show full[0+j]? =_
    rw[Nat.zero_add,h9 j (by omega),List.getElem?_eq_getElem hj]⟩) (fun it dZ k hk=>by
   simp only[List.mem_singleton]at dZ;subst dZ;simp[am]at hk;omega) (by simp[am])
  exact h.iN ⟨_,List.Perm.refl _,List.Sublist.cons_cons _ (List.Sublist.cons _ (List.sublist_cons_self _ _))⟩
 have key:(∃bk o,b=some ⟨bk,o,none⟩)∨(b=none∧xs=[]∧c=0):=by
  cases b with
  |none=>exact .inr ⟨F,(uq hI hO).1,(uq hI hO).2⟩
  |some a=>obtain⟨bk,o,sp⟩:=a;have wl:sp=none:=(hI.row hO).1;subst wl;exact .inl ⟨bk,o,F⟩
 by_cases uf:i<xs.length
 ·rcases key with⟨bk,o,rfl⟩|⟨_,rfl,_⟩
  ·obtain⟨_,full,hb,h1,h2,h3⟩:=hI.row hO
   simp only[Nat.mul_one,List.length_map]at h1 h2
   have Bp: ∀j v,(ints xs)[j]? =some v→w.cell? ⟨bk,o+j,none⟩=some v:=fun j v hv=>by
    obtain⟨hj,e⟩:=List.getElem?_eq_some_iff.1 hv
    have:=h3 j hj
    simp only[World.cell?,hb];simpa[e]using this
   have wl: ∀j,j<c→(w.cell? ⟨bk,o+j,none⟩).isSome=true:=fun j hj=>by
    simp only[World.cell?,hb];simp;omega
   have Yo: ∀j,w.frozen? ⟨bk,j,none⟩=false:=fun j=>by simp[World.frozen?,hb]
   by_cases J7:xs.length+1≤c
   ·have ue:vb≠bk:=fun e=>by
     have hn:=hI.nodup
     simp[am,e]at hn
    refine(Any2.slices_Insert_int_shift uo bk o xs.length c i vb 0 1 1 (ints xs) [.int .i64 x] w uf (by decide) J7 Vg ue (by simp) F Bp (fun j hj=>wl j (by omega)) (fun j _=>Yo _) eT ZY VW 3 3 vf.size full.size (by simp[World.shape?,VV]) (by simp[World.shape?,hb]) (by omega) (by simp[World.frozen?,VV]) (by simp[World.frozen?,VV])).mono ?_
    rintro e w' ⟨rfl,rfl⟩
    refine⟨_,_,F,?_,_,_,F,F⟩
    have hA:=(hI.drew).setCells (p:=i+1) (vs:=(ints xs).drop i) (x5:=ints (xs.take i++xs.getD i 0::xs.drop i)) hO (by simp;omega) (by simp;omega) (fun j hj=>by
     have qj:j<xs.length+1:=by simp at hj;omega
     rw[rD xs _ hi]
     simp only[List.length_drop,List.length_map]
     by_cases c1:j<i
     ·rw[if_pos c1,if_neg (by omega)]
     ·by_cases c2:j=i
      ·subst c2;rw[if_neg c1,if_pos F,if_neg (by omega),List.getElem?_map];simp[List.getD_eq_getElem?_getD,uf]
      ·rw[if_neg c1,if_neg c2,if_pos (by omega),List.getElem?_drop,show i+(j-(i+1))=j-1 by omega])
    have hB:=hA.setCells (i:=0) (b:=bk) (o:=o) (c:=c) (T:=3) (cs:=ints (xs.take i++xs.getD i 0::xs.drop i)) (p:=i) (vs:=[.int .i64 x]) (x5:=ints (xs.take i++x::xs.drop i)) F (by simp;omega) (by rw[gv];omega) (fun j hj=>by
     rw[rD xs _ hi,rD xs _ hi]
     simp only[List.length_cons,List.length_nil]
     by_cases c1:j<i
     ·rw[if_pos c1,if_neg (by omega),if_pos c1]
     ·by_cases c2:j=i
      ·subst c2;rw[if_neg c1,if_pos F,if_pos (by omega),Nat.sub_self];rfl
      ·rw[if_neg c1,if_neg c2,if_neg (by omega),if_neg c1,if_neg c2])
    exact wm _ _ _ hB
   ·refine(Any2.slices_Insert_int_grow uo bk o xs.length c i vb 0 1 1 (ints xs) [.int .i64 x] w uf (by decide) h1 (by omega) (by omega) (by simp) F Bp eT ZY VW).mono ?_
    rintro e w' ⟨rfl,rfl⟩
    refine⟨_,_,F,?_,_,_,F,F⟩
    obtain⟨cc,Vh⟩: ∃cc,grownCap w (xs.length+1) c 3=cc:=⟨_,F⟩
    have Yk:xs.length+1≤cc:=Vh▸grownCap_ge w _ _ _
    rw[show grownCap w (xs.length+1) c (y_.t 3)=cc from Vh]
    have hz: ∀k,Builtin.zeroCells (Value.int .i64 0).cells k=(List.replicate k (Value.int .i64 0)).toArray:=fun k=>by
     have:=o9 (.int .i64 0) k
     simpa[Builtin.zeroCells,Value.cells]using this
    obtain⟨Gm,Rb⟩: ∃Gm,Gm=(ints xs).take i++List.replicate (xs.length+1-i) (Value.int .i64 0)++List.replicate (cc-(xs.length+1)) (Value.int .i64 0):=⟨_,F⟩
    have wQ:Gm.length=cc:=by rw[Rb];simp;omega
    have e1:((ints xs).take i).toArray++Builtin.zeroCells (Value.int .i64 0).cells (xs.length+1-i)++Builtin.zeroCells (Value.int .i64 0).cells (cc-(xs.length+1))=Gm.toArray:=by
     rw[Rb,hz,hz];simp only[List.append_toArray]
    rw[e1,show y_.t 3=3 from F]
    have hh1:(w.alloc (.cells Gm.toArray 3 (0,0))).drew.heap[w.heap.size]? =some (.cells Gm.toArray 3 (0,0)):=by
     show(w.heap.push _)[w.heap.size]? =_
     simp
    rw[j6 _ _ _ _ hh1]
    have hh2:((im (w.alloc (.cells Gm.toArray 3 (0,0))).drew w.heap.size (.cells (dK Gm i [.int .i64 x]).toArray 3 (0,0))).drew).heap[w.heap.size]? =some (.cells (dK Gm i [.int .i64 x]).toArray 3 (0,0)):=jQ (w:=(w.alloc (.cells Gm.toArray 3 (0,0))).drew) (by show w.heap.size<(w.heap.push _).size;simp)
    rw[j6 _ _ _ _ hh2]
    refine grown _ cc (dK (dK Gm i [.int .i64 x]) (i+1) ((ints xs).drop i)).toArray F F F ?_ ?_ ?_ Yk (by simp[f_,wQ]) ?_
    ·show(((w.heap.push _).setIfInBounds _ _).setIfInBounds _ _).size=_;simp
    ·intro k hk
     show(((w.heap.push _).setIfInBounds _ _).setIfInBounds _ _)[k]? =_
     rw[Array.getElem?_setIfInBounds_ne (by omega),Array.getElem?_setIfInBounds_ne (by omega),Array.getElem?_push,if_neg (by omega)]
    ·exact jQ (w:=(im (w.alloc (.cells Gm.toArray 3 (0,0))).drew w.heap.size (.cells (dK Gm i [.int .i64 x]).toArray 3 (0,0))).drew) (by show w.heap.size<((w.heap.push _).setIfInBounds _ _).size;simp)
    ·intro j hj
     rw[rD xs _ hi]
     simp only[List.getElem?_toArray]
     rw[kW _ _ _ _ (by simp[f_,wQ];omega),kW _ _ _ _ (by simp[wQ];omega)]
     simp only[List.length_drop,List.length_map,List.length_cons,List.length_nil]
     by_cases c1:j<i
     ·rw[if_neg (by omega),if_neg (by omega),if_pos c1,Rb,List.append_assoc,List.getElem?_append_left (by simp;omega),List.getElem?_take,if_pos c1]
     ·by_cases c2:j=i
      ·subst c2;rw[if_neg (by omega),if_pos (by omega),if_neg c1,if_pos F,Nat.sub_self];rfl
      ·rw[if_pos (by omega),if_neg c1,if_neg c2,List.getElem?_drop,show i+(j-(i+1))=j-1 by omega]
  ·simp at uf
 ·have Yl:i=xs.length:=by omega
  subst Yl
  have Ym:ints (xs.take xs.length++x::xs.drop xs.length)=ints xs++[.int .i64 x]:=by simp
  by_cases J7:xs.length+1≤c
  ·rcases key with⟨bk,o,rfl⟩|⟨_,_,rfl⟩
   ·obtain⟨_,full,hb,h1,h2,h3⟩:=hI.row hO
    simp only[Nat.mul_one,List.length_map]at h1 h2
    refine(Any2.slices_Insert_int_end_room uo bk o xs.length c vb 0 1 1 [.int .i64 x] w (by decide) J7 Vg F (fun j hj=>by simp only[World.cell?,hb];simp;omega) (fun j _=>by simp[World.frozen?,hb]) eT VW).mono ?_
    rintro e w' ⟨rfl,rfl⟩
    refine⟨_,_,F,?_,_,_,F,F⟩
    have hB:=hI.setCells (p:=xs.length) (vs:=[.int .i64 x]) (x5:=ints (xs.take xs.length++x::xs.drop xs.length)) hO (by simp;omega) (by rw[gv];omega) (fun j hj=>by
     rw[rD xs _ (Nat.le_refl _)]
     simp only[List.length_cons,List.length_nil]
     by_cases c1:j<xs.length
     ·rw[if_pos c1,if_neg (by omega)]
     ·have c2:j=xs.length:=by omega
      subst c2;rw[if_neg c1,if_pos F,if_pos (by omega),Nat.sub_self];rfl)
    exact wm _ _ _ hB
   ·omega
  ·have Vv:xs.length≤c:=by
    rcases key with⟨bk,o,rfl⟩|⟨_,rfl,_⟩
    ·obtain⟨_,full,_,h1,_⟩:=hI.row hO;simpa using h1
    ·simp
   refine(Any2.slices_Insert_int_end_grow uo b xs.length c vb 0 1 1 (ints xs) [.int .i64 x] w (by decide) Vv (by omega) (by omega) (by simp) F (fun e=>key.elim (fun h=>by obtain⟨_,_,h⟩:=h;rw[e]at h;cases h) (fun h=>by rw[h.2.1];rfl)) (fun a ha j v hv=>by
    obtain⟨bk,o,sp⟩:=a
    subst ha
    have wl:sp=none:=(hI.row hO).1
    subst wl
    rw[o_]
    obtain⟨hj,e⟩:=List.getElem?_eq_some_iff.1 hv
    obtain⟨_,full,hb,h1,h2,h3⟩:=hI.row hO
    have:=h3 j hj
    simp only[World.cell?,hb];simpa[e]using this) eT VW).mono ?_
   rintro e w' ⟨rfl,rfl⟩
   refine⟨_,_,F,?_,_,_,F,F⟩
   obtain⟨cc,Vh⟩: ∃cc,grownCap w (xs.length+1) c 3=cc:=⟨_,F⟩
   have Yk:xs.length+1≤cc:=Vh▸grownCap_ge w _ _ _
   rw[show grownCap w (xs.length+1) c (y_.t 3)=cc from Vh]
   have hz: ∀k,Builtin.zeroCells (Value.int .i64 0).cells k=(List.replicate k (Value.int .i64 0)).toArray:=fun k=>by
    have:=o9 (.int .i64 0) k
    simpa[Builtin.zeroCells,Value.cells]using this
   rw[hz]
   refine grown _ cc _ F F F (by show(w.heap.push _).size=_;simp) (fun k hk=>by
    show(w.heap.push _)[k]? =_
    rw[Array.getElem?_push,if_neg (by omega)]) (by show(w.heap.push (Obj.cells _ 3 (0,0)))[w.heap.size]? =_;rw[Array.getElem?_push_size]) Yk (by simp;omega) (fun j hj=>by
    rw[Ym]
    simp only[List.append_toArray,List.getElem?_toArray]
    rw[List.getElem?_append_left (by simp;omega)])
end Go.Proofs.YtgdbfideeeegmaaGreatDoor

namespace Go.Proofs.YtgdbfideeeegmaaGreatDoor
open Go.Lx Go.RowKit _root_.Go.Proofs.Tryz
theorem sr {α:Type} {p:α→Bool} {xs:List α} {k:Nat} (h:k<xs.length) (ha:(xs.take k).any p=false) (hp:p xs[k]=false):(xs.take (k+1)).any p=false:=by
 rw[List.take_succ_eq_append_getElem h,List.any_append,ha];simp[hp]
theorem Lu {p:Int→Bool} {xs:List Int} {i:Int} (h:(xs.any p=false∧i= -1)∨ ∃k:Nat,i=(k:Int)∧k<xs.length∧(xs.take k).any p=false∧p (xs.getD k 0)=true):decide (i≥0)=xs.any p:=by
 rcases h with⟨h1,rfl⟩|⟨k,rfl,h1,_,h2⟩
 ·rw[h1];decide
 ·rw[show xs.any p=true from List.any_eq_true.2 ⟨_,List.getElem_mem h1,by rwa[List.getD_eq_getElem?_getD,List.getElem?_eq_getElem h1]at h2⟩];exact decide_eq_true (by omega)
theorem DU {α:Type} {p:α→Bool} {xs:List α} {k:Nat} (h:k<xs.length) (hp:p xs[k]=true):xs.any p=true:=List.any_eq_true.2 ⟨_,List.getElem_mem h,hp⟩
theorem qm (base:World) [cG Tryz.prog base] (b:Option Addr) (c:Nat) (xs:List Int) (hS:Sl base b (ints xs)) (hb:xs.length<9223372036854775807) (fv:Value) (p:Int→Bool) (OO:List Lx.Item) (hy: ∀x∈xs,dn Tryz.prog base fv [vI x] OO (fun v O'=>v=.bool (p x)∧O'=OO)):
  bm Tryz.prog base 194 [.slice b xs.length c,fv] OO (fun v O'=> ∃i:Int,v=vI i∧((xs.any p=false∧i= -1)∨ ∃k:Nat,i=(k:Int)∧k<xs.length∧(xs.take k).any p=false∧p (xs.getD k 0)=true)∧O'=OO):=by
 refine aw func194 F ntmps194 F ?_
 refine ai (aj F (ae (aB (ai (ah F (ad (bS bK F) (ah F (ae (aG ?_)))))))))
 refine dm (fun(k:Nat) ρ O=>O=OO∧k≤xs.length∧(xs.take k).any p=false∧cw [(0,(.slice b xs.length c)),(1,fv),(7,vI (xs.length:Int)),(8,vI (k:Int))] ρ) (fun k=>xs.length-k) 0 ?_ ?_
 ·exact⟨F,Nat.zero_le _,F,⟨F,F,F,F,trivial⟩⟩
 rintro k ρ O ⟨rfl,hk,kJ,hH⟩
 obtain⟨fE,rfl⟩:=hH.elim
 clear hH
 refine ai (ad (bT F F) (ae (aB (aC F (fun hc=>?_) (fun hc=>?_)))))
 ·have iS:k<xs.length:=by omega
  refine av (aB (aG (ai (ah F (aj F (ae (ai (ah F (ah F (ah F (ad (cV (i:=k) bK aO F F (ay hS) iS (by rw[List.length_map];exact iS)) (ad (cd cS F F (ay hS) (fp iS)) ?_))))))))))))
  have oF:=hy xs[k] (List.getElem_mem iS)
  refine ak F (dx oF F F ?_)
  clear oF
  rintro vr O' ⟨rfl,rfl⟩
  refine ae (T.cond F (fun hc=>?_) (fun hc=>?_))
  ·refine aB ?_
   refine aJ (ah F (aj F (ae (aA (ap ?_)))))
   refine aE (vI (k:Int)) Tryz.results194 F ?_
   exact⟨_,bn (List.Sublist.refl _),k,F,.inr ⟨k,F,iS,kJ,by rw[List.getD_eq_getElem?_getD,List.getElem?_eq_getElem iS];exact hc⟩,F⟩
  refine av (aJ (ad (cx (a:=k) (b:=1) F F (by omega)) (ah F (ae ?_))))
  exact⟨k+1,by omega,F,by omega,sr iS kJ hc,⟨F,F,F,F,trivial⟩⟩
 have HW: ¬k<xs.length:=by omega
 refine bJ ?_
 refine ai (aj F (ae (aA (ap ?_))))
 refine aE (vI (-1)) Tryz.results194 F ?_
 exact⟨_,bn (List.Sublist.refl _), -1,F,.inl ⟨by rw[List.take_of_length_le (by omega)]at kJ;exact kJ,F⟩,F⟩
theorem wB (base:World) [cG Tryz.prog base] (b:Option Addr) (c:Nat) (xs:List Int) (hS:Sl base b (ints xs)) (hb:xs.length<9223372036854775807) (fv:Value) (p:Int→Bool) (OO:List Lx.Item) (hy: ∀x∈xs,dn Tryz.prog base fv [vI x] OO (fun v O'=>v=.bool (p x)∧O'=OO)):
  bm Tryz.prog base 195 [.slice b xs.length c,fv] OO (fun v O'=>v=.bool (xs.any p)∧O'=OO):=by
 refine aw func195 F ntmps195 F ?_
 refine ai (aj F (ae (ai (ah F (ah F ?_)))))
 have AB:=qm base b c xs hS hb fv p OO hy
 refine ak F (aP Cv AB F ?_)
 clear AB
 rintro v O' ⟨i,rfl,hi,rfl⟩
 refine ad (jF F F) (aj F (ae (aA (ap ?_))))
 refine aE (.bool (decide (i≥0))) Tryz.results195 F ?_
 exact⟨_,bn (List.Sublist.refl _),congrArg Value.bool (Lu hi),F⟩
theorem WO (base:World) [cG Tryz.prog base] (d:bU) (k:DK) (ha:At base d k) (hv:Valid d) (z1 s:Nat) (hs:s<d.next.length):
  bm Tryz.prog base 196 [vN s,.pointer (aD z1)] [oI z1 25 (dC d k)] (fun v O'=>v=.bool (cF d s)∧O'=[oI z1 25 (dC d k)]):=by
 refine aw func196 F ntmps196 F ?_
 refine ai (aj F (ae (ai (ad (aN bW F cA F F) (ad (aQ 0 df F F F F) (ah F (ad (cV (i:=s) df dU F F (ay ha.ax) (by rw[hv.fin];exact hs) (by rw[List.length_map,hv.fin];exact hs)) (ad (cd zi F F (ay ha.ax) (mR hv hs)) (aj F (ae (aA ?_)))))))))))
 refine aE (.bool (cF d s)) Tryz.results196 F ?_
 exact⟨F,F⟩
theorem uh (w:World) [cG Tryz.prog w] (d:bU) (k:DK) (ha:At w d k) (hv:Valid d) (b:Option Addr) (c:Nat) (l:List Nat) (hS:Sl w b (aX l)) (hl: ∀s∈l,s<d.next.length) (hb:l.length≤1000000):
  bI Tryz.prog 148 [dV d k,.slice b l.length c] w fun v N=>v=.bool (l.any (cF d))∧N=[]:=by
 refine aw func148 F ntmps148 F ?_
 refine ai (ak F (cH (cs:=(dC d k)) F F (fun z1=>?_)))
 refine aj F (ae (ai (ah F (ad (dQ) ?_))))
 have AB:=(show bm _ _ _ _ _ _ from by
   have h9:=wB w b c (l.map fun y:Nat=>(y:Int)) (by rw[eS];exact hS) (by rw[List.length_map];omega) (.func (.func 196) #[] #[.pointer (aD z1)]) (fun x=>cF d x.toNat) [oI z1 25 (dC d k)] (fun x hx=>by
    obtain⟨s,hs,rfl⟩:=List.mem_map.1 hx
    exact bQ (first:=[]) (args:=[vI (s:Int)]) (eY:=[.pointer (aD z1)]) Pf (WO w d k ha hv z1 s (hl s hs)))
   rw[List.length_map]at h9
   exact h9)
 refine ak F (aP Pg AB F ?_)
 clear AB
 rintro vr O' ⟨rfl,rfl⟩
 refine aj F (ae (aA (ap ?_)))
 refine aE (.bool ((l.map fun y:Nat=>(y:Int)).any fun x=>cF d x.toNat)) Tryz.results148 F ?_
 exact⟨[],Sub.z,congrArg Value.bool (by rw[List.any_map];rfl),F⟩
theorem Nl (w:World) [cG Tryz.prog w] (d:bU) (k:DK) (ha:At w d k) (hv:Valid d) (b:Option Addr) (c:Nat) (l:List Nat) (hS:Sl w b (aX l)) (hl: ∀s∈l,s<d.next.length) (hb:l.length≤1000000) (x:Nat) (hx:x<da d):
  bI Tryz.prog 144 [dV d k,.slice b l.length c,v8 x] w fun v N=> ∃b' c',v=.slice b' (eA d l x).length c'∧N=[am b' c' 3 1 (aX (eA d l x))]:=by
 refine aw func144 F ntmps144 F ?_
 have KB:=ha.rows.1
 refine ai (ak F (cH (cs:=(dC d k)) F F (fun z1=>?_)))
 refine aj F (ae (aB (ai (ah F (ad (bS bK F) (ah F (ae (aG (T.dJ 3 1 ?_)))))))))
 let eQ:Lx.Item:=oI z1 25 (dC d k)
 refine cM (fun(i:Nat) ρ O=> ∃(rb:Option Addr) (rc:Nat),O=[am rb rc 3 1 (ints ((l.take i).map fun s=>((dY d s x:Nat):Int))),eQ]∧i≤l.length∧cw [(0,(dV d k)),(1,(.slice b l.length c)),(2,v8 x),(3,(.pointer (aD z1))),(6,(.slice rb i rc)),(9,(.slice b l.length c)),(10,vI (l.length:Int)),(11,vN i)] ρ) (fun i=>l.length-i) 0 ?_ ?_
 ·exact⟨none,0,F,Nat.zero_le _,(.of F)⟩
 rintro i ρ O ⟨rb,rc,rfl,hi,hH⟩
 obtain⟨fE,rfl⟩:=hH.elim
 clear hH
 refine ai (ad (bT F F) (ae (aB (aC F (fun hc=>?_) (fun hc=>?_)))))
 ·have AC:i<l.length:=by omega
  have pm:l[i]<d.next.length:=hl _ (List.getElem_mem AC)
  obtain⟨v1,c1,g1,s1⟩:=ha.rows.get pm
  have HX:d.next[l[i]].length=da d:=hv.len _ (List.getElem_mem pm)
  have B8:x<d.next[l[i]].length:=by rw[HX];exact hx
  refine av (aB (aG (ai (ad (cV (i:=i) bK aO F F (ay hS)) (ad (cd cS F F (ay hS) fO) (aj F (ae (aJ (ah F (ad (aN bW F dM F F) (ad (aQ 1 du F F F F) (ah F (ad (cV (i:=l[i]) du bV F F (ay ha.outer) pm (KB▸pm)) (ad (cd bK F F (ay ha.outer) g1) (ah F (ad (cV (i:=x) bK aO F F (ay s1) B8 (by rw[List.length_map];exact B8)) (ad (cd cS F F (ay s1) (uy hv pm hx)) (ak F (bM (v:=vN (dY d l[i] x)) bK aO F F F (fun z2=>?_))))))))))))))))))))
  refine ak F (bY 1 bK bK aO F F F F (by simp;omega) (by decide) (Src.row (j:=0) F (by simp)) (by simp[dS]) (by omega) (by decide) (by decide) (fun z3 l7=>?_))
  refine aj F (ae (aJ (ad (cx (a:=i) (b:=1) F F (by omega)) (ah F (ae ?_)))))
  exact⟨i+1,by omega,[am z3 l7 3 1 ((ints ((l.take i).map fun s=>((dY d s x:Nat):Int)))++[vN (dY d l[i] x)]),eQ],(by exact Sub.d (.k (.k .z))),z3,l7,by rw[List.take_succ_eq_append_getElem AC,List.map_append,show ints ((l.take i).map (fun s=>((dY d s x:Nat):Int))++[l[i]].map (fun s=>((dY d s x:Nat):Int)))=ints ((l.take i).map fun s=>((dY d s x:Nat):Int))++[vN (dY d l[i] x)]from List.map_append],by omega,(.of F)⟩
 have Nn: ¬i<l.length:=by omega
 refine bJ ?_
 refine aB ?_
 have uf:i=l.length:=by omega
 subst uf
 rw[List.take_length]
 refine aJ (ah F (ak F (aP Ph (k7 [0] (by have h9:=Te w rb rc (l.map fun s=>((dY d s x:Nat):Int)) (by rw[List.length_map];omega);rw[List.length_map]at h9;exact h9)) F ?_)))
 rintro vr O' ⟨A1,rfl,rfl,rfl⟩
 refine ae (ai (ah F ?_))
 have vg:=bm.under (A:=[am rb rc 3 1 (ints (oG (l.map fun s=>((dY d s x:Nat):Int))))]) (B:=[eQ]) (O:=[am rb rc 3 1 (ints (oG (l.map fun s=>((dY d s x:Nat):Int)))),eQ]) (show bm _ _ _ _ _ (fun v O'=>v=.slice rb (eA d l x).length rc∧O'=[am rb rc 3 1 (aX (eA d l x))])from by
   have h9:=HY w rb rc (oG (l.map fun s=>((dY d s x:Nat):Int))) (by rw[List.length_mergeSort,List.length_map];exact hb)
   rw[FE hv.toVal hl hx,List.length_map,eS,List.length_mergeSort,List.length_map]at h9
   exact h9) (by exact Sub.rf)
 refine ak F (aP Pj vg F ?_)
 clear vg
 rintro vr O' ⟨A1,rfl,rfl,rfl⟩
 refine aj F (ae (aA (ap ?_)))
 refine aE (.slice rb ((eA d l x).length) rc) Tryz.results144 F ?_
 exact⟨[am rb rc 3 1 (aX (eA d l x))],(by exact Sub.k .z),rb,rc,F,F⟩
theorem No (base:World) [cG Tryz.prog base] (n:Nat) (b:Option Addr) (c cv:Nat) (l:List Nat) (s:Nat) (ha:l.Pairwise (· < ·)) (hl: ∀s∈l,s<n) (hs:s<n) (hb:l.length≤1000000):
  bm Tryz.prog base 149 [.slice b l.length cv,vN s] [am b c 3 1 (aX l)] (fun v O'=> ∃b' c' c2,v=.slice b' (yw n l s).length c'∧O'=[am b' c2 3 1 (aX (yw n l s))]):=by
 refine aw func149 F ntmps149 F ?_
 refine ai (aj F (ae (ai (ah F (ah F (ak F (aP Pk (aI fun w1 hI=>(haveI:=di hI;Lv w1 b cv l s (hI.fV (mG 0 F)) ha hb)) F ?_)))))))
 rintro vr O' ⟨N,rfl,rfl,rfl⟩
 refine ah F (ad (aV (vs:=_) F F) (ad (aV (vs:=_) F F) (aj F (aj F (ae (aB (ai (ah F (ae (aC F (fun hc=>?_) (fun hc=>?_)))))))))))
 ·refine aB ?_
  refine aJ (ah F (aj F (ae (aA (ap ?_)))))
  refine aE (.slice b l.length cv) Tryz.results149 F ?_
  rw[Lw ha hl hc]
  exact⟨[am b c 3 1 (aX l)],(by exact Sub.rf),b,cv,c,F,F⟩
 refine av (ai (ah F ?_))
 refine ak F (aP HZ (aI fun w1 hI=>(haveI:=di hI;(show bI _ _ _ _ _ from by
   have h9:=H0 w1 b cv (l.map fun y:Nat=>(y:Int)) (by rw[eS];exact hI.fV (mG 0 F)) (by rw[List.length_map];exact hb)
   rw[List.length_map,eS]at h9
   exact h9))) F ?_)
 rintro vr O' ⟨N,rfl,nb,nc,rfl,rfl,Vv⟩
 refine ah F (ah F (ak F (bM (v:=vN s) bK aO F F F (fun z1=>?_))))
 have lh:=bm.under (A:=[am nb nc 3 1 (aX l),am (aD z1) 1 3 1 [vN s]]) (B:=[am b c 3 1 (aX l)]) (O:=[am (aD z1) 1 3 1 [vN s],am nb nc 3 1 (aX l),am b c 3 1 (aX l)]) (show bm _ _ _ _ _ (fun v O'=> ∃b' c',v=.slice b' (l.length+1) c'∧O'=[am b' c' 3 1 (aX (yw n l s))])from by
   have h9:=Ly base nb nc (l.countP (· <s)) z1 (l.map fun y:Nat=>(y:Int)) (s:Int) (by rw[List.length_map];exact List.countP_le_length) (by rw[List.length_map];exact hb) Vv
   rw[←List.map_take,←List.map_drop,List.length_map,eS,show ints (List.map (fun y:Nat=>(y:Int)) (l.take (l.countP (· <s)))++(s:Int)::List.map (fun y:Nat=>(y:Int)) (l.drop (l.countP (· <s))))=aX (yw n l s) by rw[←DV ha hl hs hc,←eS,List.map_append,List.map_cons]]at h9
   exact h9) (by exact Sub.dr [am (aD z1) 1 3 1 [vN s]] _ (.k (.k .z)))
 refine ak F (aP Pm lh F ?_)
 clear lh
 rintro vr O' ⟨A1,rfl,ib,ic,rfl,rfl⟩
 refine aj F (ae (aA (ap ?_)))
 refine aE (.slice ib (l.length+1) ic) Tryz.results149 F ?_
 have M4:(yw n l s).length=l.length+1:=by rw[←DV ha hl hs hc];simp;have:=List.countP_le_length (p:=fun y=>decide (y<s)) (l:=l);omega
 exact⟨[am ib ic 3 1 (aX (yw n l s))],(by exact Sub.k .z),ib,ic,ic,by rw[M4],F⟩
end Go.Proofs.YtgdbfideeeegmaaGreatDoor


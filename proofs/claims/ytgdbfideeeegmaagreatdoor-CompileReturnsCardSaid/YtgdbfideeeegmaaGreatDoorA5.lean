/- Contracts of functions of the program, and what they answer. Conditions: those each theorem names. -/
import Derived.OpenShut
import Derived.Deep.DeepHandedRow
import Derived.Deep.Matrix
import Derived.Deep.Grids
import Derived.WideKeyArgs
import Derived.SizedLaws
import Derived.Test.YtgdbfideeeegmaaGreatDoorA1
import Derived.Test.YtgdbfideeeegmaaGreatDoorA4
import Derived.Test.YtgdbfideeeegmaaGreatDoorA2
import Derived.Shelf.Sort.Plain
import Derived.Shelf.Slices.In.SortNone
import Derived.Shelf.Slices.CompactI
import Derived.Shelf.Slices.SearchI
import Derived.Shelf.Slices.Empties
import Derived.Shelf.Spec.SlicesInsert
import Derived.Shelf.Spec.SlicesInsertGrow
import Derived.Deep.Slices
import Derived.Test.YtgdbfideeeegmaaGreatDoorCards
import Derived.Test.YtgdbfideeeegmaaGreatDoorTie
import Derived.WalkKit
import Derived.ProofKit
import Derived.Lib.LaidTab
import Derived.Test.YtgdbfideeeegmaaGreatDoorA3
import Derived.Test.YtgdbfideeeegmaaGreatDoorA0
set_option linter.unusedSectionVars false
set_option linter.unusedSimpArgs false
set_option linter.unusedVariables false
set_option linter.unnecessarySimpa false
set_option maxHeartbeats 8000000
set_option maxRecDepth 20000
namespace Go.Lx
open Go.RowKit Go.ChangeShapes Go.WideShapes Go.Deep
section
variable {H:Type} {enc:TypeId×Value→H} {P:Program}
theorem rB (hl:laidOutB P=true) {W W':World} {sp':Nat→Bool}: ∀ {ts:List TypeId} {vs:List Value} {ds:List (DataW H)} {ps:List MemPlace},
  (∀t∈ts,P.readableRec t=true∧t<P.types.size)→DataW.TrodAll enc P W 0 (fun _=>true) true ts vs ds ps→(∀p∈ps,W.sameAt W' p)→(∀p∈ps,sp' p.block=true)→DataW.TrodAll enc P W' 0 sp' true ts vs ds ps
 | [],_,_,_,_,h,_,_=>by
  obtain⟨rfl,rfl,rfl⟩:=trodAll_nil h
  rfl
 |t::ts,_,_,_,hr,h,hs,yw=>by
  obtain⟨v,vs1,d,ds1,p,q,rfl,rfl,rfl,h1,h2⟩:=trodAll_cons h
  have ht:=hr t (by simp)
  exact⟨p,q,WideElems.Trod_stays hl ht.1 ht.2 h1 (fun x hx=>hs x (aQ _ hx)) (fun x hx=>yw x (aQ _ hx)),
   rB hl (fun t ht=>hr t (by simp[ht])) h2 (fun x hx=>hs x (am _ hx)) (fun x hx=>yw x (am _ hx)),F⟩
theorem IU {f:Func} {s:ChangeSpec} {W W':World} {args:Array Value} {ds gs:List (DataW H)} {before:List MemPlace} {tb:TypeId}
  (hl:laidOutB P=true) (hr: ∀t∈f.params.toList,P.readableRec t=true∧t<P.types.size) (Ur:f.resultTypes= #[tb]) (hb:P.underlying tb=some .bool) (hv:s.vars=[])
  (hW:DataW.Whole enc P f.params.toList s.vars false W args.toList ds gs before)
  (h1:(s.fn H ds).results=[.lit (.bool true)]) (h2:(s.fn H ds).args=ds) (h3:(s.fn H ds).vars=[])
  (hB:Below W.heap.size W W'):s.post enc P f false true false false W args (.bool true) W':=by
 have YK:=hW
 obtain⟨p,q,hA,hV,rfl,hz,hn⟩:=hW
 rw[hv]at hV
 obtain⟨rfl,rfl⟩:=trodVars_none hV
 simp only[cT]at YK hz hn
 have gn:=YK.lt
 have Us: ∀x∈p,W.sameAt W' x:=fun x hx=>hB.same (gn x hx)
 have Fg: ∀sp:Nat→Bool,(∀x∈p,sp x.block=true)→DataW.TrodAll enc P W' 0 sp true f.params.toList args.toList (s.fn H (ds++[])).args p:=fun sp yw=>by
  rw[cT,h2]
  exact rB hl hr hA Us yw
 have yY: ∀sp:Nat→Bool,DataW.TrodVars enc P W' sp s.vars (s.fn H (ds++[])).vars []:=fun sp=>by
  rw[cT,hv,h3];rfl
 have Fh: ∀(b:Nat) (sp:Nat→Bool) (hd:Bool),DataW.TrodAll enc P W' b sp hd f.resultTypes.toList ((Value.bool true).resultList f.resultTypes.size) (s.fn H (ds++[])).results []:=fun b sp hd=>by
  rw[cT,h1,Ur]
  exact trodAll_cons_mk (shut_bool hb _) trodAll_mk0
 have hold: ∀x∈p,(fun b=>decide (b<W.heap.size)) x.block=true:=fun x hx=>by simpa using gn x hx
 refine⟨ds,[],p,[],p,[],YK,Fh _ _ _,Fg _ hold,yY _,World.keptBut_mono (fun x hx=>⟨hx,?_⟩) (hB.frame _),fun _=>?_⟩
 ·exact Or.inr (by simpa using hx)
 ·refine⟨ok_one Ur F (okWide_bool_mk hb _),_,_,([]++p)++[],⟨[]++p,[],trodAll_append (Fg _ (fun _ _=>rfl)) (Fh _ _ _),yY _,F,?_,?_⟩,?_⟩
  ·intro b off hx
   have sQ:MemPlace.cell b off∈p:=by simpa using hx
   rw[hB.frozen (p:=⟨b,off,none⟩) (gn _ sQ)]
   exact hz b off sQ
  ·intro ha;cases ha
  ·intro x hx _
   simpa using hx
theorem I0 {w:World} {a:Addr} {v:Value} (h:w.cell? a=some v):a.spot=none:=by
 unfold World.cell? at h
 cases e:a.spot with
 |none=>rfl
 |some x=>rw[e]at h;split at h<;>simp at h
theorem oW {w:World} {a:Addr} {cs:List Value} (h: ∀i (hi:i<cs.length),w.cell? (a.add i)=some cs[i]):Sl w (some a) cs:=fun i hi=>by
 have h0:=h 0 (by omega)
 have h1:=h i hi
 have h2:a.spot=none:=I0 (a:=a) (by simpa[Addr.add]using h0)
 refine⟨a,F,h2,?_⟩
 have e:a.add i=⟨a.block,a.off+i,none⟩:=by
  unfold Addr.add
  split
  ·rename_i h;subst h
   cases a with
   |mk b o s=>simp at h2;subst h2;rfl
  ·rfl
 rw[←e];exact h1
structure Bs (P:Program) (W:World) (v:Value) (d:cM) (nb fb:Option Addr) (nc fc:Nat) (vs:List Value):Prop where
 val:v=.agg (eG d nb nc fb fc).toArray
 at_:ii W d nb vs fb
 n:d.next.length≤reachBytes
 r: ∀r∈d.next,r.length≤reachBytes
 f:d.aV.length≤reachBytes
 YL:d.aV.length≤fc
 YM: ∀(i:Nat) (b:Option Addr) (n c:Nat),vs[i]? =some (Value.slice b n c)→n≤c
theorem uW (e:TypeId): ∀ {l:List (DataW H)} {d:DataW H},d∈l→ ∀m∈d.weights P e,m∈DataW.weightsAll P e l
 | [],_,h,_,_=>by cases h
 |x::l,d,h,m,hm=>by
  rw[DataW.weightsAll,jr]
  rcases List.mem_cons.1 h with rfl|h
  ·exact .inl hm
  ·exact .inr (uW e h m hm)
theorem pZ {t e:TypeId} {wO spare:List (DataW H)} (ht:P.underlying t=some (.slice e)) (he:0<P.bytesOf e) (h: ∀m∈(DataW.slice wO spare).weights P t,m≤reachBytes):
  wO.length≤reachBytes∧ ∀d∈wO,∀m∈d.weights P e,m≤reachBytes:=by
 have hw:(DataW.slice wO spare).weights P t=(wO.length+spare.length)*P.bytesOf e::(DataW.weightsAll P e wO++DataW.weightsAll P e spare):=by
  rw[DataW.weights,ht]
 rw[hw]at h
 refine⟨?_,fun d hd m hm=>h m (List.mem_cons_of_mem _ (aQ _ (uW e hd m hm)))⟩
 have h1:=h _ List.mem_cons_self
 have h2:=Nat.mul_le_mul_left (wO.length+spare.length) (show 1≤P.bytesOf e from he)
 omega
theorem QK {w:World} {A:Option Addr} {L C:Nat} {Z:List Int} (hL:L≤C) (hZ:Z.length=C) (h0:A=none→C=0) (h: ∀a',A=some a'→0≤a'.block∧ ∀c,c<C→w.cell? (a'.add c)=some (.int .i64 (Z.getD c 0))):
  (Z.take L).length=L∧Sl w A (ints (Z.take L)):=by
 have hl:(Z.take L).length=L:=by rw[cw];omega
 refine⟨hl,?_⟩
 cases A with
 |none=>
  have:=h0 F
  have:Z.take L=[]:=List.eq_nil_of_length_eq_zero (by omega)
  rw[this];exact Sl.nil _ _
 |some a=>
  refine oW fun i hi=>?_
  have qX:i<L:=by rw[ar,hl]at hi;exact hi
  have X2:i<Z.length:=by omega
  rw[(h a F).2 i (by omega),List.getElem_map,List.getElem_take]
  simp[X2]
theorem I1 {t ti tn tr tf tb:TypeId} {f0 f1 f2 f3:Field} {W:World} {v:Value} {d:DataW H} {p:List MemPlace}
  (ht:P.underlying t=some (.struct #[f0,f1,f2,f3])) (hc:P.cellsOf t=4) (h0:f0.type=ti) (h1:f1.type=ti) (h2:f2.type=tn) (h3:f3.type=tf) (o0:f0.offset=0) (o1:f1.offset=1) (o2:f2.offset=2) (o3:f3.offset=3)
  (hi:P.underlying ti=some (.int .i64)) (hn:P.underlying tn=some (.slice tr)) (pM:P.underlying tr=some (.slice ti)) (hf:P.underlying tf=some (.slice tb)) (hb:P.underlying tb=some .bool)
  (ci:P.cellsOf ti=1) (cn:P.cellsOf tn=1) (cr:P.cellsOf tr=1) (cf:P.cellsOf tf=1) (cb:P.cellsOf tb=1) (br:0<P.bytesOf tr) (bi:0<P.bytesOf ti) (bb:0<P.bytesOf tb) (hw: ∀m∈d.weights P t,m≤reachBytes)
  (h:DataW.Trod enc P W 0 (fun _=>true) true t v d p): ∃D nb fb nc fc vs,Bs P W v D nb fb nc fc vs:=by
 obtain⟨gu,hT⟩:=h
 obtain⟨xs,n,rfl,hx,iM,DQ,mf⟩:=DataW.trod_struct ht hT
 rw[hc]at iM
 obtain⟨c0,c1,c2,c3,yx⟩: ∃c0 c1 c2 c3,v.cells.toList=[c0,c1,c2,c3]:=by
  match hh:v.cells.toList,iM with
  | [a,b,c,e],_=>exact⟨a,b,c,e,F⟩
 have hv:v=.agg #[c0,c1,c2,c3]:=by
  have sN:v.cells.size=4:=by rw[←Array.length_toList,yx];rfl
  cases v with
  |agg cs=>
   have:cs.toList=[c0,c1,c2,c3]:=yx
   rw[←Array.toArray_toList (xs:=cs),this]
  |_=>simp[Value.cells]at sN
 rw[yx]at mf
 obtain⟨x0,x1,x2,x3,rfl⟩: ∃a b c e,xs=[a,b,c,e]:=by
  match xs,DQ with
  | [a,b,c,e],_=>exact⟨a,b,c,e,F⟩
 have g0:=mf 0 f0 F
 have g1:=mf 1 f1 F
 have g2:=mf 2 f2 F
 have g3:=mf 3 f3 F
 rw[h0,o0,ci]at g0
 rw[h1,o1,ci]at g1
 rw[h2,o2,cn]at g2
 rw[h3,o3,cf]at g3
 have hd:d=.agg [x0.1,x1.1,x2.1,x3.1]:=ax Prod.fst hx
 have hwe:d.weights P t=DataW.weightsEach P [ti,ti,tn,tf] [x0.1,x1.1,x2.1,x3.1]:=by
  rw[hd,DataW.weights,ht]
  simp[h0,h1,h2,h3]
 rw[hwe]at hw
 have TP: ∀m∈x2.1.weights P tn,m≤reachBytes:=fun m hm=>hw m (DataW.weights_mem_each (j:=2) F F m hm)
 have hw3: ∀m∈x3.1.weights P tf,m≤reachBytes:=fun m hm=>hw m (DataW.weights_mem_each (j:=3) F F m hm)
 obtain⟨n0,e0,_,_⟩:=DataW.trod_int hi g0
 obtain⟨n1,e1,_,_⟩:=DataW.trod_int hi g1
 have e0':c0=.int .i64 n0:=by simpa using e0
 have e1':c1=.int .i64 n1:=by simpa using e1
 subst e0' e1'
 obtain⟨nb,nc,rows,vs,e2,G9,IX,YN,Ut,Uu⟩: ∃(nb:Option Addr) (nc:Nat) (rows:List (List Int)) (vs:List Value),c2=.slice nb rows.length nc∧rows.length≤reachBytes∧(∀r∈rows,r.length≤reachBytes)∧Sl W nb vs∧nZ W vs rows∧ ∀(i:Nat) (b:Option Addr) (n c:Nat),vs[i]? =some (Value.slice b n c)→n≤c:=by
  rcases open_int_rows hn pM hi cr ci g2 with⟨QL,_⟩|⟨a,len,cap,A,L,C,Z,QL,_,hlc,eR,I2,lQ⟩
  ·exact⟨none,0,[],[],by simpa using QL,bs _,fun r hr=>(List.not_mem_nil hr).elim,Sl.nil _ _,⟨F,fun i r hr=>by simp at hr⟩,fun i b n c hr=>by simp at hr⟩
  ·rw[ax Prod.fst I2]at TP
   obtain⟨YO,hwr⟩:=pZ hn br TP
   have YP:len≤reachBytes:=by simpa using YO
   have Uv: ∀r,r<len→L r≤reachBytes:=fun r hr=>by
    obtain⟨_,a2,_,a4,_,a6,_⟩:=lQ r (by omega)
    have hm:=hwr _ (List.mem_map.2 ⟨r,List.mem_range.2 hr,F⟩)
    cases hA:A r with
    |none=>have:=a6 hA;omega
    |some b=>
     rw[hA]at hm
     have:=(pZ pM bi hm).1
     simp[lits]at this
     omega
   have Dw: ∀r,r<len→((Z r).take (L r)).length=L r∧Sl W (A r) (ints ((Z r).take (L r))):=fun r hr=>by
    obtain⟨_,a2,a3,a4,_,a6,a7⟩:=lQ r (by omega)
    exact QK a2 a4 a6 a7
   refine⟨some a,cap,(List.range len).map fun r=>(Z r).take (L r),(List.range len).map fun r=>.slice (A r) (L r) (C r),by simpa using QL,by simp;omega,?_,?_,⟨by simp,?_⟩,?_⟩
   ·intro r hr
    obtain⟨j,hj,rfl⟩:=List.mem_map.1 hr
    have wP:=List.mem_range.1 hj
    rw[(Dw j wP).1];exact Uv j wP
   ·refine oW fun i MW=>?_
    have qX:i<len:=by simpa using MW
    rw[(lQ i (by omega)).1];simp
   ·intro i r hr
    have qX:i<len:=by
     have:=(List.getElem?_eq_some_iff.1 hr).1
     simpa using this
    have er:r=(Z i).take (L i):=by
     rw[bq,List.getElem?_range qX]at hr
     exact(cZ hr).symm
    subst er
    refine⟨A i,C i,?_,(Dw i qX).2⟩
    rw[bq,List.getElem?_range qX,(Dw i qX).1];rfl
   ·intro i b n c hr
    by_cases qX:i<len
    ·rw[bq,List.getElem?_range qX]at hr
     have h9:=cZ hr
     obtain⟨_,a2,_⟩:=lQ i (by omega)
     injection h9 with _ TR h11
     omega
    ·rw[bQ (by simpa using qX)]at hr;cases hr
 obtain⟨fb,fc,fin,e3,qY,wQ,Uw⟩: ∃(fb:Option Addr) (fc:Nat) (fin:List Bool),c3=.slice fb fin.length fc∧fin.length≤reachBytes∧Sl W fb (cE fin)∧fin.length≤fc:=by
  rcases open_bools hf hb cb g3 with⟨QM,_⟩|⟨a,len,cap,B,QM,_,hlc,eR,Ux,lQ⟩
  ·exact⟨none,0,[],by simpa using QM,bs _,Sl.nil _ _,bs _⟩
  ·rw[ax Prod.fst Ux]at hw3
   have YO:=(pZ hf bb hw3).1
   have YP:len≤reachBytes:=by simpa using YO
   refine⟨some a,cap,(List.range len).map B,by simpa using QM,by simp;omega,oW fun i MW=>?_,by simp;omega⟩
   have qX:i<len:=by simpa using MW
   rw[lQ i (by omega)];simp
 exact⟨⟨n0,n1,rows,fin⟩,nb,fb,nc,fc,vs,by rw[hv,e2,e3],⟨YN,Ut,wQ⟩,G9,IX,qY,Uw,Uu⟩
theorem QN {n:Nat} (h:n≤reachBytes):n<9223372036854775807:=jz h (by decide)
end
end Go.Lx

namespace Go.Lx
open Go.RowKit
theorem wR {f:Bool→Bool→Bool} {v:Int} {n m N:Nat} {a b:cM} {p q:List Nat→Bool} (ha:HasL v n a p) (hb:HasL v m b q) (h:(order (bJ f a b)).length≤N) (hN:N≤4096):gf v N (t_ f a b) (fun w=>f (p w) (q w)):=by
 have hv:a.vars=b.vars:=by rw[ha.vars,hb.vars]
 have vD:Val (bJ f a b):=jV ha.valid.toVal hb.valid.toVal hv
 have vR:Valid (ek (bJ f a b)):=ud vD (bE h hN)
 have e:t_ f a b=fJ (ek (bJ f a b)):=(wS vD).symm
 have hl:(fJ (ek (bJ f a b))).next.length≤(ek (bJ f a b)).next.length:=wG vR.toVal
 have hr:(ek (bJ f a b)).next.length=(order (bJ f a b)).length:=by simp[ek]
 refine⟨⟨?_,?_,ha.vars,fun w hw=>?_⟩,IE ha.valid.toVal hb.valid.toVal hv⟩
 ·rw[e];exact lu vR
 ·rw[e];omega
 ·rw[ID ha.valid.toVal hb.valid.toVal hv (ha.wd.2 hw),ha.iI w hw,hb.iI w hw]
end Go.Lx

namespace Go.Lx
open Go.RowKit
end Go.Lx

namespace Go.Lx
open Go.RowKit
end Go.Lx

namespace Go.Lx
open Go.RowKit
end Go.Lx

namespace Go.Lx
open Go.RowKit
abbrev cC (a g:cM) (j k:DK):List Value:=[.int .i64 a.vars,.int .i64 a.start,.slice j.nb a.next.length j.nc,.slice j.fb a.aV.length j.fc,.int .i64 g.vars,.int .i64 g.start,.slice k.nb g.next.length k.nc,.slice k.fb g.aV.length k.fc]
abbrev bC (e:Value) (a g:cM) (j k:DK):List Value:=e::cC a g j k
end Go.Lx
namespace Go.Lx
end Go.Lx

namespace Go.Lx
open Go.RowKit
end Go.Lx

namespace Go.Lx
open Go.RowKit
section
variable {v:Int} {px py p q p1 q1 p2 q2 p3 q3:List Nat→Bool}
end
section
variable {z x a b c d:cM} {px p q p2 q2:List Nat→Bool}
end
section
variable {v:Int} {px py p q p1 q1 p2 q2 p3 q3:List Nat→Bool}
theorem fi {P Q:List Nat→Prop} (h: ∀w,P w↔Q w):(∀w,jn v w→P w)↔ ∀w,jn v w→Q w:=forall_congr' fun w=>forall_congr' fun _=>h w
theorem fc {P Q R:List Nat→Prop} (h: ∀w,P w↔Q w∧R w):(∀w,jn v w→P w)↔(∀w,jn v w→Q w)∧ ∀w,jn v w→R w:=
 ⟨fun a=>⟨fun w hw=>((h w).1 (a w hw)).1,fun w hw=>((h w).1 (a w hw)).2⟩,fun a w hw=>(h w).2 ⟨a.1 w hw,a.2 w hw⟩⟩
end
end Go.Lx

namespace Go.Lx
open Go.RowKit
structure YQ (d:cM) (j:DK):Prop where
 f:d.aV.length≤j.fc
 r: ∀(i:Nat) (b:Option Addr) (n c:Nat),(dl j.qs)[i]? =some (Value.slice b n c)→n≤c
end Go.Lx
namespace Go.Lx
abbrev Bd9 (a:cM):Prop:=a.next.length<9223372036854775807∧(∀r∈a.next,r.length<9223372036854775807)∧a.aV.length<9223372036854775807
end Go.Lx

namespace Go.Lx
open Go.RowKit Go.ChangeShapes Go.WideShapes Go.Deep
section
variable {H:Type} {enc:TypeId×Value→H} {P:Program}
theorem Bs.dk {W:World} {v:Value} {d:cM} {nb fb:Option Addr} {nc fc:Nat} {vs:List Value} (h:Bs P W v d nb fb nc fc vs): ∃j:DK,v=.agg (dC d j).toArray∧At W d j∧Bd9 d∧YQ d j:=by
 obtain⟨qs,rfl,e⟩:=Bv h.at_.rows
 exact⟨⟨nb,nc,fb,fc,qs⟩,h.val,h.at_,⟨QN h.n,fun r hr=>QN (h.r r hr),QN h.f⟩,⟨h.YL,h.YM⟩⟩
end
end Go.Lx

namespace Go.Lx
open Go.RowKit Go.Sort
theorem rI {α:Type} [Inhabited α] (enc:α→Value) (off:Nat) (d:Array α) (c:Array Value):(putCells enc off d c).size=c.size:=by simp[putCells]
theorem vx {α:Type} [Inhabited α] (enc:α→Value) (off:Nat) (d:Array α) (c:Array Value) {i:Nat} (hi:i<d.size) (hc:off+i<c.size):(putCells enc off d c)[off+i]? =some (enc d[i]!):=by
 simp only[putCells,Array.getElem?_mapIdx,Array.getElem?_eq_getElem hc,Option.map_some]
 rw[aR ⟨by omega,by omega⟩,show off+i-off=i by omega]
theorem Inv.Lr {base w:World} {O:List Item} {i ll off cap:Nat} {T:TypeId} {zs ys:List Int} (hI:Inv base O w) (hO:O[i]? =some (aq (some ⟨ll,off,none⟩) cap T 1 (ints zs))) (hl:ys.length=zs.length) (n:Nat) (os:Array Obj):
  Inv base (O.set i (aq (some ⟨ll,off,none⟩) cap T 1 (ints ys))) (Go.Sort.grow (putRow (Value.int .i64) (Sort.ahead w n) ll off ys.toArray) os):=by
 obtain⟨_,full,hb,n3,Th,EM⟩:=hI.row hO
 have gn:ll<w.heap.size:=(Array.getElem?_eq_some_iff.1 hb).1
 have xY:(Go.Sort.grow (putRow (Value.int .i64) (Sort.ahead w n) ll off ys.toArray) os).heap=(w.heap.modify ll (onCells (putCells (Value.int .i64) off ys.toArray)))++os:=rfl
 refine hI.rU hO F F F ?_ (fun b X6 hk=>?_) ⟨F,putCells (Value.int .i64) off ys.toArray full,?_,?_,?_,fun j hj=>?_⟩ (fun k hk=>.inl hk) (by simp[aq])
 ·rw[xY];simp
 ·rw[xY,Array.getElem?_append_left (by simpa using X6),Array.getElem?_modify,ay (fun e=>hk (by simp[aq,e]))]
 ·rw[xY,Array.getElem?_append_left (by simpa using gn),Array.getElem?_modify,aR F,hb];rfl
 ·simp only[ar]at n3⊢;omega
 ·rw[rI];exact Th
 ·have se:j<ys.length:=by simpa using hj
  have Z6:zs.length≤cap*1:=by simpa using n3
  have Z7:off+cap*1≤full.size:=Th
  show(putCells (Value.int .i64) off ys.toArray full)[off+j]? =_
  rw[vx _ _ _ _ (by simpa using se) (by omega)]
  simp[se]
theorem z_ {base w:World} {O:List Item} {i ll off cap:Nat} {T:TypeId} {zs:List Int} (hI:Inv base O w) (hO:O[i]? =some (aq (some ⟨ll,off,none⟩) cap T 1 (ints zs))):Holds (Value.int .i64) w ll off zs.toArray∧ll<w.heap.size:=by
 obtain⟨_,full,hb,n3,Th,EM⟩:=hI.row hO
 refine⟨fun j hj=>?_,(Array.getElem?_eq_some_iff.1 hb).1⟩
 have se:j<zs.length:=by simpa using hj
 have h9:=EM j (by simpa using se)
 constructor
 ·simp only[World.cell?,hb]
  simp at h9
  simp[h9,se]
 ·simp[World.frozen?,hb]
end Go.Lx

namespace Go.Lx
open Go.RowKit Go.Sort
theorem Ow {l m:List Int} (hl:l.Pairwise (· < ·)) (hm:m.Pairwise (· < ·)) (h: ∀y,y∈l↔y∈m):l=m:=
 ((List.perm_ext_iff_of_nodup (hl.imp fun h=>by omega) (hm.imp fun h=>by omega)).2 h).eq_of_pairwise (le:=fun x y:Int=>x<y) (fun a b _ _ h1 h2=>by omega) hl hm
theorem xX {l m:List Nat} (hl:l.Pairwise (· < ·)) (hm:m.Pairwise (· < ·)) (h: ∀y,y∈l↔y∈m):l=m:=
 ((List.perm_ext_iff_of_nodup (hl.imp fun h=>by omega) (hm.imp fun h=>by omega)).2 h).eq_of_pairwise (le:=fun x y:Nat=>x<y) (fun a b _ _ h1 h2=>by omega) hl hm
theorem C2 (zs:List Int) (y:Int):y∈Lib.compact zs↔y∈zs:=by
 unfold Lib.compact Lib.compactUpTo
 simp only[iu,List.mem_filter,fj]
 constructor
 ·rintro⟨j,⟨hj,_⟩,rfl⟩
  rw[getElem!_pos zs.toArray j (by simpa using hj)];simp
 ·intro hy
  have hex: ∃j,j<zs.length∧zs.toArray[j]! =y:=by
   obtain⟨j,hj,e⟩:=List.getElem_of_mem hy
   exact⟨j,hj,by rw[getElem!_pos zs.toArray j (by simpa using hj)];simpa using e⟩
  suffices main: ∀j,j<zs.length→zs.toArray[j]! =y→ ∃i,(i<zs.length∧Lib.keeps zs.toArray i=true)∧zs.toArray[i]! =y by
   obtain⟨j,hj,e⟩:=hex;exact main j hj e
  intro j
  induction j with
  |zero=>exact fun hj e=>⟨0,⟨hj,by simp[Lib.keeps]⟩,e⟩
  |succ j ih=>
   intro hj e
   by_cases h:zs.toArray[j]! =y
   ·exact ih (by omega) h
   ·exact⟨j+1,⟨hj,by simp only[Lib.keeps,dm];exact .inr (by rw[e];exact fun h'=>h h'.symm)⟩,e⟩
theorem C3 {zs:List Int} (h:zs.Pairwise (· ≤ ·)):(Lib.compact zs).Pairwise (· < ·):=by
 have Fj: ∀i j,i≤j→j<zs.length→zs.toArray[i]! ≤zs.toArray[j]! :=fun i j Ys hj=>by
  rw[getElem!_pos zs.toArray i (by simp;omega),getElem!_pos zs.toArray j (by simpa using hj)]
  rcases Nat.lt_or_ge i j with h1|h1
  ·simpa using List.pairwise_iff_getElem.1 h i j (by omega) hj h1
  ·have:i=j:=by omega
   subst this;exact Int.le_refl _
 unfold Lib.compact Lib.compactUpTo
 rw[List.pairwise_map]
 refine List.Pairwise.imp_of_mem ?_ (List.Pairwise.filter _ (List.pairwise_lt_range (n:=zs.length)))
 intro i j hi hj Ys
 simp only[List.mem_filter,fj]at hi hj
 have h2:=hj.2
 simp only[Lib.keeps,dm]at h2
 have h1:=Fj i (j-1) (by omega) (by omega)
 have h3:=Fj (j-1) j (by omega) hj.1
 omega
def H0 (n:Nat) (p:Nat→Bool):List Nat:=(List.range n).filter p
theorem qO {n:Nat} {p:Nat→Bool} {y:Nat}:y∈H0 n p↔y<n∧p y=true:=by simp[H0]
theorem oF (n:Nat) (p:Nat→Bool):(H0 n p).Pairwise (· < ·):=List.Pairwise.filter _ List.pairwise_lt_range
theorem Kh (n:Nat) (p:Nat→Bool):(H0 n p).length≤n:=bE (List.length_filter_le _ _) (by simp)
def fN (d:cM) (l:List Nat) (x:Nat):List Nat:=H0 d.next.length fun y=>l.any fun s=>e7 d s x==y
theorem rn {d:cM} (hv:Val d) {l:List Nat} (hl: ∀s∈l,s<d.next.length) {x y:Nat} (hx:x<2^d.vars.toNat):y∈fN d l x↔ ∃s∈l,e7 d s x=y:=by
 unfold fN;rw[qO]
 simp only[dW,beq_iff_eq]
 constructor
 ·exact fun h=>h.2
 ·rintro⟨s,hs,rfl⟩
  exact⟨(hv.gV (hl s hs) hx).1,s,hs,F⟩
def AB (n:Nat) (l:List Nat) (s:Nat):List Nat:=H0 n fun y=>l.contains y||y==s
theorem wu {n:Nat} {l:List Nat} (hl: ∀s∈l,s<n) {s y:Nat} (hs:s<n):y∈AB n l s↔y∈l∨y=s:=by
 unfold AB;rw[qO]
 simp only[Bool.or_eq_true,List.contains_eq_mem,dm,beq_iff_eq]
 exact⟨fun h=>h.2,fun h=>⟨h.elim (hl y) (fun e=>e▸hs),h⟩⟩
theorem NQ {n:Nat} {l:List Nat} (ha:l.Pairwise (· < ·)) (hl: ∀s∈l,s<n) {s:Nat} (hs:s∈l):AB n l s=l:=
 xX (oF _ _) ha fun y=>by rw[wu hl (hl s hs)];exact⟨fun h=>h.elim id (fun e=>e▸hs),.inl⟩
abbrev qx (l:List Int):List Int:=l.mergeSort fun x y=>decide (x≤y)
theorem yN (l:List Int):(qx l).Pairwise fun x y=>x≤y:=by
 have:=List.pairwise_mergeSort (le:=fun x y:Int=>decide (x≤y)) (fun a b c h1 h2=>by simp at*;omega) (fun a b=>by simp;omega) l
 exact this.imp fun h=>by simpa using h
theorem HG {d:cM} (hv:Val d) {l:List Nat} (hl: ∀s∈l,s<d.next.length) {x:Nat} (hx:x<2^d.vars.toNat):
  Lib.compact (qx (l.map fun s=>((e7 d s x:Nat):Int)))=(fN d l x).map fun y:Nat=>(y:Int):=by
 refine Ow (C3 (yN _)) (List.pairwise_map.2 ((oF _ _).imp fun h=>by omega)) fun y=>?_
 rw[C2,List.mem_mergeSort,iu,iu]
 constructor
 ·rintro⟨s,hs,rfl⟩;exact⟨_,(rn hv hl hx).2 ⟨s,hs,F⟩,F⟩
 ·rintro⟨y,hy,rfl⟩
  obtain⟨s,hs,rfl⟩:=(rn hv hl hx).1 hy
  exact⟨s,hs,F⟩
theorem Gg: ∀ {l:List Nat} {s:Nat},l.Pairwise (· < ·)→s∉l→(l.take (l.countP (· <s))++s::l.drop (l.countP (· <s))).Pairwise (· < ·)
 | [],s,_,_=>by simp
 |a::l,s,h,hs=>by
  rw[List.pairwise_cons]at h
  simp only[df,not_or]at hs
  by_cases c:a<s
  ·rw[List.countP_cons,aR (by simpa using c)]
   simp only[List.take_succ_cons,List.drop_succ_cons,cJ,List.pairwise_cons]
   refine⟨fun y hy=>?_,Gg h.2 hs.2⟩
   rcases List.mem_append.1 hy with hy|hy
   ·exact h.1 y (List.mem_of_mem_take hy)
   ·rcases List.mem_cons.1 hy with rfl|hy
    ·exact c
    ·exact h.1 y (List.mem_of_mem_drop hy)
  ·have h0:(a::l).countP (· <s)=0:=by
    rw[List.countP_eq_zero]
    intro y hy
    rcases List.mem_cons.1 hy with rfl|hy
    ·simpa using c
    ·have:=h.1 y hy;simp;omega
   rw[h0]
   simp only[List.take_zero,c8,List.drop_zero,List.pairwise_cons]
   exact⟨fun y hy=>by
    rcases List.mem_cons.1 hy with rfl|hy
    ·omega
    ·have:=h.1 y hy;omega,h.1,h.2⟩
theorem FL {n:Nat} {l:List Nat} (ha:l.Pairwise (· < ·)) (hl: ∀s∈l,s<n) {s:Nat} (hs:s<n) (hn:s∉l):l.take (l.countP (· <s))++s::l.drop (l.countP (· <s))=AB n l s:=
 xX (Gg ha hn) (oF _ _) fun y=>by
  rw[wu hl hs,jr,df]
  have h9:y∈l↔y∈l.take (l.countP (· <s))∨y∈l.drop (l.countP (· <s)):=by rw[←jr,List.take_append_drop]
  rw[h9]
  constructor
  ·rintro(h|h|h)
   ·exact .inl (.inl h)
   ·exact .inr h
   ·exact .inl (.inr h)
  ·rintro((h|h)|h)
   ·exact .inl h
   ·exact .inr (.inr h)
   ·exact .inr (.inl h)
theorem Inv.drewN {base w:World} {O:List Item} (h:Inv base O w) (q:Nat):Inv base O (w.drewN q):=h.same F F F F
theorem gk (l:List Nat):ints (l.map fun y:Nat=>(y:Int))=bU l:=by simp
theorem Gh {w:World} {b:Nat} {o:Obj} (h:w.heap[b]? =some o):jL w b o=w:=by
 have gn:=(Array.getElem?_eq_some_iff.1 h).1
 have e:w.heap.setIfInBounds b o=w.heap:=by
  apply Array.ext_getElem?
  intro i
  rw[Array.getElem?_setIfInBounds]
  by_cases c:b=i
  ·subst c;rw[aR F,aR gn,h]
  ·rw[ay c]
 show({w with heap:=_}:World)=w
 rw[e]
theorem lO {b:Nat} {T:TypeId}: ∀(vs:List Value) (o:Nat) (cs:List Value) (w:World),w.heap[b]? =some (.cells cs.toArray T (0,0))→w.setCells b o vs=jL w b (.cells (fe cs o vs).toArray T (0,0))
 | [],o,cs,w,h=>by
  rw[World.setCells,fe,Gh h]
 |v::vs,o,cs,w,h=>by
  have gn:=(Array.getElem?_eq_some_iff.1 h).1
  rw[World.setCells,fe,sS h,lO vs (o+1) (cs.set o v) (jL w b _) (ly gn),y7]
theorem Inv.setCells {base w:World} {O:List Item} {i b o c p:Nat} {T:TypeId} {cs By vs:List Value} (hI:Inv base O w) (hO:O[i]? =some (aq (some ⟨b,o,none⟩) c T 1 cs)) (hp:p+vs.length≤c) (hl:By.length≤c)
  (hc: ∀j (h:j<By.length),By[j]? =if p≤j∧j<p+vs.length then vs[j-p]? else cs[j]?):Inv base (O.set i (aq (some ⟨b,o,none⟩) c T 1 By)) (w.setCells b (o+p) vs):=by
 obtain⟨_,full,hb,h1,h2,h3⟩:=hI.row hO
 obtain⟨fl,rfl⟩: ∃fl:List Value,full=fl.toArray:=⟨full.toList,by simp⟩
 simp only[Nat.mul_one,List.size_toArray]at h1 h2
 rw[lO vs (o+p) fl w hb]
 refine hI.setRow hO (by omega) (by simp[iz];omega) fun j hj=>?_
 have hg:=mO vs fl (o+p) (o+j) (by omega)
 simp only[List.getElem?_toArray]
 rw[hg]
 have h9:=hc j hj
 by_cases DU:p≤j∧j<p+vs.length
 ·rw[aR (by omega)]
  rw[aR DU]at h9
  rw[show o+j-(o+p)=j-p by omega,←h9,ap hj]
 ·rw[ay (by omega)]
  rw[ay DU]at h9
  have hjc:j<cs.length:=by
   rcases Nat.lt_or_ge j cs.length with h|h
   ·exact h
   ·rw[bQ h,ap hj]at h9;cases h9
  have:=h3 j hjc
  simp only[List.getElem?_toArray]at this
  rw[this,←ap hjc,←h9,ap hj]
theorem Inv.H1 {base w:World} {O:List Item} {i ll off cap:Nat} {T:TypeId} {zs ys Tf:List Int} (hI:Inv base O w) (hO:O[i]? =some (aq (some ⟨ll,off,none⟩) cap T 1 (ints zs))) (hl:(ys++Tf).length=zs.length) (n:Nat):
  Inv base (O.set i (aq (some ⟨ll,off,none⟩) cap T 1 (ints ys))) (putRow (Value.int .i64) (Sort.ahead w n) ll off (ys++Tf).toArray):=by
 have h:=hI.Lr (ys:=ys++Tf) hO hl n #[]
 have e:Go.Sort.grow (putRow (Value.int .i64) (Sort.ahead w n) ll off (ys++Tf).toArray) #[]=putRow (Value.int .i64) (Sort.ahead w n) ll off (ys++Tf).toArray:=by
  simp[Go.Sort.grow];rfl
 rw[e]at h
 have gn:i<O.length:=(List.getElem?_eq_some_iff.1 hO).1
 have h2:(O.set i (aq (some ⟨ll,off,none⟩) cap T 1 (ints (ys++Tf))))[i]? =some (aq (some ⟨ll,off,none⟩) cap T 1 (ints (ys++Tf))):=by simp[gn]
 obtain⟨_,full,hb,h3,h4,h5⟩:=h.row h2
 have h6:=h.setRow h2 (By:=ints ys) (full:=full) (by simp at h3⊢;omega) h4 fun j hj=>by
  have se:j<ys.length:=by simpa using hj
  have:=h5 j (by simp;omega)
  rw[this];simp[il,se]
 rw[List.set_set]at h6
 rwa[Gh hb]at h6
theorem tG (xs:List Int) (x:Int) {i:Nat} (hi:i≤xs.length) (j:Nat):(ints (xs.take i++x::xs.drop i))[j]? =if j<i then(ints xs)[j]? else if j=i then some (.int .i64 x)else(ints xs)[j-1]? :=by
 rw[bq]
 by_cases c1:j<i
 ·rw[aR c1,bI (by simp;omega),List.getElem?_take,aR c1,bq]
 ·rw[ay c1,bY (by simp;omega)]
  simp only[cw,Nat.min_eq_left hi]
  by_cases c2:j=i
  ·subst c2;rw[aR F,gL];rfl
  ·obtain⟨k,rfl⟩: ∃k,j=i+(k+1):=⟨j-i-1,by omega⟩
   rw[ay c2,show i+(k+1)-i=k+1 by omega,List.getElem?_cons_succ,List.getElem?_drop,bq,show i+(k+1)-1=i+k by omega]
end Go.Lx

namespace Go.Lx
open Go.RowKit
abbrev Key:=List UInt8
theorem uG {α:Type} [DecidableEq α]: ∀ {l m:List α},l.Nodup→(∀x∈l,x∈m)→l.length≤m.length
 | [],_,_,_=>bs _
 |a::l,m,hn,h=>by
  rw[List.nodup_cons]at hn
  have ha:=h a (by simp)
  have:=uG (l:=l) (m:=m.erase a) hn.2 fun x hx=>(List.mem_erase_of_ne (fun e:x=a=>hn.1 (by rw[←e];exact hx))).2 (h x (by simp[hx]))
  rw[List.length_erase_of_mem ha]at this
  have:=List.length_pos_of_mem ha
  simp only[bL];omega
def Gj (tr:Key→Nat→Key) (L:Nat) (start:Key) (C:List Key):Prop:=start∈C∧ ∀k∈C,∀x,x<L→tr k x∈C
def HI (tr:Key→Nat→Key) (L:Nat) (start:Key) (B:Nat):Prop:= ∃C,Gj tr L start C∧C.length≤B
structure Ck (tr:Key→Nat→Key) (L:Nat) (start:Key) (ks:List Key):Prop where
 nodup:ks.Nodup
 st:ks[0]? =some start
 sub: ∀C,Gj tr L start C→ ∀k∈ks,k∈C
theorem Ck.one (tr:Key→Nat→Key) (L:Nat) (start:Key):Ck tr L start [start]:=⟨by simp,F,fun C h k hk=>by simp at hk;subst hk;exact h.1⟩
theorem Ck.pos {tr:Key→Nat→Key} {L:Nat} {start:Key} {ks:List Key} (h:Ck tr L start ks):0<ks.length:=(List.getElem?_eq_some_iff.1 h.st).1
theorem Ck.add {tr:Key→Nat→Key} {L:Nat} {start:Key} {ks:List Key} (h:Ck tr L start ks) {k:Key} (hk:k∈ks) {x:Nat} (hx:x<L):Ck tr L start (add ks (tr k x)):=
 ⟨mK h.nodup,by obtain⟨t,ht⟩:=jE ks (tr k x);rw[←ht,bI h.pos];exact h.st,fun C hC y hy=>(rp.1 hy).elim (h.sub C hC y) fun e=>e▸hC.2 k (h.sub C hC k hk) x hx⟩
theorem Ck.VU {tr:Key→Nat→Key} {L:Nat} {start:Key} {ks:List Key} (h:Ck tr L start ks) {B:Nat} (hB:B<ks.length): ¬HI tr L start B:=fun⟨C,hC,hl⟩=>by
 have:=uG h.nodup (fun k hk=>h.sub C hC k hk)
 omega
theorem FM {ks:List Key} {k:Key} (h:k∉ks):add ks k=ks++[k]:=by unfold add;rw[ay h]
theorem FN {ks:List Key} {k:Key} (h:k∈ks):add ks k=ks:=by unfold add;rw[aR h]
theorem Cq {tr:Key→Nat→Key} {L:Nat} {start:Key} {ks:List Key} {rs:List (List Int)} (h:Ck tr L start ks) (hE:qz tr L ks ks.length rs) {B:Nat} (hB:ks.length≤B):HI tr L start B:=
 ⟨ks,⟨bS h.st,fun k hk x hx=>by
  obtain⟨i,hi,rfl⟩:=List.getElem_of_mem hk
  have:=hE.mem i hi x hx
  rwa[show ks.getD i []=ks[i] by simp[hi]]at this⟩,hB⟩
def Iw (v:Nat) (rs:List (List Int)) (fs:List Bool):cM:=⟨(v:Int),0,rs,fs⟩
section
variable {tr:Key→Nat→Key} {fin:Key→Bool} {v:Nat} {start:Key} {ks:List Key} {rs:List (List Int)}
theorem EX (hv:v≤6) (hp:0<ks.length) (hE:qz tr (2^v) ks ks.length rs) (hn:ks.length≤4096):Valid (Iw v rs (ks.map fin)):=by
 refine⟨⟨by simp[Iw],by simp[Iw];omega,by show 0<rs.length;rw[hE.len];exact hp,by show(ks.map fin).length=rs.length;rw[hE.len,ar],Int.le_refl _,by show(0:Int)<(rs.length:Int);rw[hE.len];omega,fun r hr=>?_,fun r hr x hx=>?_⟩,by show rs.length≤4096;rw[hE.len];exact hn⟩
 ·obtain⟨i,hi,rfl⟩:=List.getElem_of_mem (show r∈rs from hr)
  have Hd:i<ks.length:=by have:i<rs.length:=hi;rw[hE.len]at this;exact this
  have h9:=hE.row i Hd
  rw[ap hi]at h9
  rw[cZ h9];simp[kT,Iw]
 ·obtain⟨i,hi,rfl⟩:=List.getElem_of_mem (show r∈rs from hr)
  have Hd:i<ks.length:=by have:i<rs.length:=hi;rw[hE.len]at this;exact this
  have h9:=hE.row i Hd
  rw[ap hi]at h9
  rw[cZ h9]at hx
  simp only[kT,iu,fj]at hx
  obtain⟨y,hy,rfl⟩:=hx
  have:=rJ (hE.mem i Hd y hy)
  exact⟨by omega,by show _<(rs.length:Int);rw[hE.len];omega⟩
theorem Gk (hE:qz tr (2^v) ks ks.length rs): ∀(w:List Nat) (k:Key),jn (v:Int) w→k∈ks→runN (Iw v rs (ks.map fin)) (ix k ks) w=ix (w.foldl tr k) ks∧w.foldl tr k∈ks
 | [],k,_,hk=>⟨F,hk⟩
 |x::w,k,hw,hk=>by
  have hx:x<2^v:=by have:=hw x (by simp);simpa using this
  have hi:=rJ hk
  have hg:ks.getD (ix k ks) []=k:=by rw[aw,pr hk];rfl
  have hm:tr k x∈ks:=by have:=hE.mem _ hi x hx;rwa[hg]at this
  have ht:e7 (Iw v rs (ks.map fin)) (ix k ks) x=ix (tr k x) ks:=by
   have h9:=hE.row _ hi
   unfold e7 Iw
   simp only[aw,h9,Option.getD_some,kT,bq,List.getElem?_range hx,Option.map_some]
   rw[←aw,hg];simp
  have:=Gk hE w (tr k x) (fun y hy=>hw y (by simp[hy])) hm
  unfold runN at this⊢
  rw[cV,ht,cV]
  exact this
theorem C7 (hv:v≤6) (yB:ks[0]? =some start) (hE:qz tr (2^v) ks ks.length rs) (hn:ks.length≤4096):HasL (v:Int) ks.length (Iw v rs (ks.map fin)) (fun w=>fin (w.foldl tr start)):=by
 refine⟨EX hv (List.getElem?_eq_some_iff.1 yB).1 hE hn,by show rs.length≤_;rw[hE.len];exact a8 _,F,fun w hw=>?_⟩
 have hs:start∈ks:=bS yB
 have h0:ix start ks=0:=by
  cases ks with
  |nil=>simp at hs
  |cons k l=>have:=yB;simp at this;subst this;simp[ix]
 obtain⟨h1,h2⟩:=Gk (fin:=fin) hE w start hw hs
 rw[h0]at h1
 unfold iI dD
 show List.getD (ks.map fin) (runN (Iw v rs (ks.map fin)) 0 w) false=_
 rw[h1,aw,bq,pr h2];rfl
theorem FP (hv:v≤6) (h:Ck tr (2^v) start ks) (hE:qz tr (2^v) ks ks.length rs) (hn:ks.length≤4096):HasL (v:Int) ks.length (Iw v rs (ks.map fin)) (fun w=>fin (w.foldl tr start)):=C7 hv h.st hE hn
theorem F6 (hv:v≤6) {B:Nat} (hB:B≤4096) (h:HI tr (2^v) start B): ∃M,gf (v:Int) B M (fun w=>fin (w.foldl tr start)):=by
 obtain⟨C,⟨h1,h2⟩,h3⟩:=h
 obtain⟨D,hD⟩: ∃D,D=start::C.filter (fun k=>decide (k≠start)):=⟨_,F⟩
 have hm: ∀k,k∈D↔k∈C:=fun k=>by
  rw[hD]
  by_cases e:k=start
  ·subst e;simp[h1]
  ·simp[e]
 have hl:D.length≤B:=by
  have hf:(C.filter (fun k=>decide (k≠start))).length<C.length:=by
   have:=List.length_filter_lt_length_iff_exists (p:=fun k=>decide (k≠start)) (l:=C)
   exact this.2 ⟨start,h1,by simp⟩
  rw[hD,bL];omega
 have hE:qz tr (2^v) D D.length ((List.range D.length).map (kT tr (2^v) D)):=by
  refine⟨by simp,a8 _,fun i hi=>by rw[bq,List.getElem?_range hi];rfl,fun i hi y hy=>?_⟩
  rw[hm]
  refine h2 _ ?_ y hy
  rw[←hm,aw,ap hi]
  exact aL hi
 have h4:=C7 (fin:=fin) hv (show D[0]? =some start by rw[hD];rfl) hE (by omega)
 have h5:=HasL.nX h4
 exact⟨_,⟨h5.valid,bE h5.len hl,h5.vars,h5.iI⟩,h5.min⟩
end
structure SR where
 a:Value
 b:Value
 kL:List Item
abbrev c1 (r:SR):List Value:=[r.a]
abbrev c2 (r:SR):List Value:=[r.a,r.b]
def eL (f:SR→List Value) (qs:List SR):List Value:=qs.flatMap f
def jm (qs:List SR):List Item:=qs.flatMap SR.kL
theorem vi (f:SR→List Value) (qs:List SR) (r:SR):eL f (qs++[r])=eL f qs++f r:=by simp[eL]
theorem zw (qs:List SR) (r:SR):jm (qs++[r])=jm qs++r.kL:=by simp[jm]
theorem km {f:SR→List Value} {n:Nat} (h: ∀r,(f r).length=n): ∀(qs:List SR),(eL f qs).length=qs.length*n
 | []=>by simp[eL]
 |r::qs=>by
  have:=km h qs
  have h0:=h r
  simp only[eL,List.flatMap_cons,aF,bL]at this⊢
  rw[this,h0,Nat.succ_mul];omega
theorem sy {f:SR→List Value} {n:Nat} (h: ∀r,(f r).length=n): ∀ {qs:List SR} {i j:Nat} (hi:i<qs.length),j<n→(eL f qs)[i*n+j]? =(f qs[i])[j]?
 |r::qs,0,j,_,hj=>by
  have h0:=h r
  simp only[eL,List.flatMap_cons,Nat.zero_mul,Nat.zero_add,List.getElem_cons_zero]
  rw[bI (by omega)]
 |r::qs,i+1,j,hi,hj=>by
  have h0:=h r
  have ih:=sy h (qs:=qs) (i:=i) (j:=j) (by simpa using hi) hj
  simp only[eL,List.flatMap_cons,List.getElem_cons_succ]at ih⊢
  rw[bY (by rw[h0,Nat.succ_mul];omega),h0,show(i+1)*n+j-n=i*n+j by rw[Nat.succ_mul];omega]
  exact ih
theorem tv {qs:List SR} {i:Nat} (hi:i<qs.length) {it:Item} (h:it∈qs[i].kL):it∈jm qs:=List.mem_flatMap.2 ⟨_,aL hi,h⟩
theorem PS {qs:List SR} {i:Nat} (hi:i<qs.length): ∀j (h:j< [qs[i].a,qs[i].b].length),(eL c2 qs)[i*2+j]? =some [qs[i].a,qs[i].b][j]:=fun j hj=>by
 rw[sy (f:=c2) (fun _=>rfl) hi (by simpa using hj)];exact ap hj
theorem PU {qs:List SR} {i:Nat} (hi:i<qs.length):(eL c1 qs)[i]? =some qs[i].a:=by
 have:=sy (f:=c1) (n:=1) (fun _=>rfl) (j:=0) hi (by omega)
 simpa using this
def J2 (Rp:Key→SR→Prop) (ks:List Key) (qs:List SR):Prop:=qs.length=ks.length∧ ∀i (h:i<qs.length),Rp (ks.getD i []) qs[i]
theorem J2.one {Rp:Key→SR→Prop} {k:Key} {r:SR} (h:Rp k r):J2 Rp [k] [r]:=⟨F,fun i hi=>by simp at hi;subst hi;exact h⟩
theorem J2.snoc {Rp:Key→SR→Prop} {ks:List Key} {qs:List SR} {k:Key} {r:SR} (h:J2 Rp ks qs) (hr:Rp k r):J2 Rp (ks++[k]) (qs++[r]):=by
 refine⟨by simp[h.1],fun i hi=>?_⟩
 rcases Nat.lt_or_ge i qs.length with c|c
 ·have:=h.2 i c
  rw[il c,aw,bI (by rw[←h.1];exact c),←aw]
  exact this
 ·simp only[aF,bL,cN]at hi
  have e:i=qs.length:=by omega
  subst e
  rw[List.getElem_append_right (a8 _),aw,bY (by rw[h.1];exact a8 _)]
  simpa[h.1]using hr
theorem xB (A B Y Z X:List Item) (h:Sub A B):Sub (A++(Y++(Z++X))) (B++(X++(Y++Z))):=by
 obtain⟨l,h1,h2⟩:=h
 refine⟨l++(X++(Y++Z)),h1.append ?_,h2.append (aZ _)⟩
 rw[←aI Y Z X]
 exact List.perm_append_comm
theorem vj (A B Y Z:List Item) (h:Sub A B):Sub (A++Y) (B++(Y++Z)):=by
 obtain⟨l,h1,h2⟩:=h
 exact⟨l++Y,h1.append_right Y,h2.append (List.sublist_append_left Y Z)⟩
theorem qA (A B X Y:List Item) (c:Item) (h:Sub (A++[c]) B):Sub (A++((X++[c])++Y)) (B++(X++Y)):=by
 obtain⟨l,h1,h2⟩:=h
 refine⟨l++(X++Y),?_,h2.append (aZ _)⟩
 refine List.Perm.trans ?_ (h1.append_right (X++Y))
 rw[aI X,aI A]
 exact List.Perm.append_left A ((List.perm_append_comm_assoc X [c] Y))
theorem fq (A B X Y:List Item) (h:Sub A B):Sub (A++Y) (B++(X++Y)):=by
 obtain⟨l,h1,h2⟩:=h
 exact⟨l++Y,h1.append_right Y,h2.append (List.sublist_append_right X Y)⟩
end Go.Lx

namespace Go.Lx
open Go.RowKit
def my (n:Int):Prop:=n= -1∨(0≤n∧n<1000000000000)
def kg (n:Int):List UInt8:=if n= -1 then[45,49]else Lib.decDigits n.toNat
def iK (l:List Int):List UInt8:=l.flatMap fun n=>kg n++[32]
theorem F9:iK []=[]:=rfl
theorem oD (n:Int) (l:List Int):iK (n::l)=kg n++32::iK l:=by simp[iK]
theorem sj (l m:List Int):iK (l++m)=iK l++iK m:=by simp[iK]
theorem Ce {l:List Int} {i:Nat} (h:i<l.length):iK (l.take (i+1))=iK (l.take i)++kg l[i]++[32]:=by
 rw[aH h,sj,oD];simp[iK]
theorem qv {n:Int} (h:my n):(kg n).length≤12:=by
 unfold kg
 split
 ·decide
 ·rcases h with h|⟨h0,h1⟩
  ·contradiction
  ·exact sZ 11 _ (by omega)
theorem ph: ∀ {l:List Int},(∀n∈l,my n)→(iK l).length≤13*l.length
 | [],_=>by simp[iK]
 |n::l,h=>by
  have h1:=qv (h n (by simp));have h2:=ph (l:=l) fun x hx=>h x (by simp[hx])
  rw[oD];simp only[aF,bL];omega
theorem rl (n:Int): ∀b∈kg n,b.toNat=45∨(48≤b.toNat∧b.toNat<58):=by
 unfold kg
 split
 ·intro b hb;simp at hb;rcases hb with rfl|rfl<;>decide
 ·exact fun b hb=>.inr (q8 _ b hb)
theorem Lm {a b:Int} (ha:my a) (hb:my b) (h:kg a=kg b):a=b:=by
 unfold kg at h
 by_cases h1:a= -1<;>by_cases h2:b= -1
 ·rw[h1,h2]
 ·rw[aR h1,ay h2]at h
  have:=q8 b.toNat 45 (h▸by simp);simp at this
 ·rw[ay h1,aR h2]at h
  have:=q8 a.toNat 45 (h▸by simp);simp at this
 ·rw[ay h1,ay h2]at h
  have:=o_ _ _ h
  rcases ha with ha|ha<;>rcases hb with hb|hb<;>first|contradiction|omega
theorem xT: ∀ {x y p q:List UInt8},(∀b∈x,b≠32)→(∀b∈y,b≠32)→x++32::p=y++32::q→x=y∧p=q
 | [],[],p,q,_,_,h=>⟨F,by simpa using h⟩
 | [],c::y,p,q,_,hy,h=>by simp only[c8,cJ,List.cons.injEq]at h;exact absurd h.1.symm (hy c (by simp))
 |c::x,[],p,q,hx,_,h=>by simp only[c8,cJ,List.cons.injEq]at h;exact absurd h.1 (hx c (by simp))
 |c::x,c'::y,p,q,hx,hy,h=>by
  simp only[cJ,List.cons.injEq]at h
  obtain⟨h1,h2⟩:=xT (fun b hb=>hx b (by simp[hb])) (fun b hb=>hy b (by simp[hb])) h.2
  exact⟨by rw[h.1,h1],h2⟩
theorem F_ (n:Int): ∀b∈kg n,b≠32:=fun b hb e=>by subst e;have:=rl n 32 hb;simp at this
theorem AY: ∀ {l m:List Int} {p q:List UInt8},(∀n∈l,my n)→(∀n∈m,my n)→(∀b t,p=b::t→b.toNat=124)→(∀b t,q=b::t→b.toNat=124)→iK l++p=iK m++q→l=m∧p=q
 | [],[],p,q,_,_,_,_,h=>⟨F,by simpa[iK]using h⟩
 | [],n::m,p,q,_,_,hp,_,h=>by
  rw[oD,F9,c8]at h
  cases hd:kg n with
  |nil=>rw[hd]at h;have:=hp 32 _ (by simpa using h);simp at this
  |cons c r=>
   rw[hd]at h
   have h1:=hp c _ (by simpa using h);have h2:=rl n c (by simp[hd]);omega
 |n::l,[],p,q,_,_,_,hq,h=>by
  rw[oD,F9,c8]at h
  cases hd:kg n with
  |nil=>rw[hd]at h;have:=hq 32 _ (by simpa using h.symm);simp at this
  |cons c r=>
   rw[hd]at h
   have h1:=hq c _ (by simpa using h.symm);have h2:=rl n c (by simp[hd]);omega
 |n::l,n'::m,p,q,hl,hm,hp,hq,h=>by
  rw[oD,oD,aI,aI,cJ,cJ]at h
  obtain⟨h1,h2⟩:=xT (F_ n) (F_ n') h
  obtain⟨h3,h4⟩:=AY (fun x hx=>hl x (by simp[hx])) (fun x hx=>hm x (by simp[hx])) hp hq h2
  exact⟨by rw[Lm (hl n (by simp)) (hm n' (by simp)) h1,h3],h4⟩
theorem xU {l m:List Int} (hl: ∀n∈l,my n) (hm: ∀n∈m,my n) (h:iK l=iK m):l=m:=
 (AY (p:=[]) (q:=[]) hl hm (by simp) (by simp) (by simpa using h)).1
end Go.Lx

namespace Go.Lx
open Go.RowKit
theorem rm: ∀ {l m:List Nat},l.map (fun y:Nat=>(y:Int))=m.map (fun y:Nat=>(y:Int))→l=m
 | [],[],_=>rfl
 | [],_::_,h=>by simp at h
 |_::_,[],h=>by simp at h
 |x::l,y::m,h=>by
  simp only[cD,List.cons.injEq]at h
  rw[rm h.2,show x=y by omega]
section
variable {α:Type} [Nonempty α] (G:α→Prop) (kf:α→Key) (nx:α→Nat→α) (fn:α→Bool)
noncomputable def Bi (k:Key) (x:Nat):Key:=kf (nx (Classical.epsilon fun a=>G a∧kf a=k) x)
noncomputable def HL (k:Key):Bool:=fn (Classical.epsilon fun a=>G a∧kf a=k)
structure Ot (L:Nat):Prop where
 ME: ∀a b x,G a→G b→kf a=kf b→x<L→kf (nx a x)=kf (nx b x)
 YI: ∀a b,G a→G b→kf a=kf b→fn a=fn b
 WI: ∀a x,G a→x<L→G (nx a x)
variable {G kf nx fn}
theorem uu {L:Nat} (h:Ot G kf nx fn L) {a:α} (ha:G a) {x:Nat} (hx:x<L):Bi G kf nx (kf a) x=kf (nx a x):=by
 have:=Classical.epsilon_spec (p:=fun b=>G b∧kf b=kf a) ⟨a,ha,F⟩
 exact h.ME _ _ x this.1 ha this.2 hx
theorem AE {L:Nat} (h:Ot G kf nx fn L) {a:α} (ha:G a):HL G kf fn (kf a)=fn a:=by
 have:=Classical.epsilon_spec (p:=fun b=>G b∧kf b=kf a) ⟨a,ha,F⟩
 exact h.YI _ _ this.1 ha this.2
theorem Ga {L:Nat} (h:Ot G kf nx fn L): ∀(u:List Nat) {a:α},G a→(∀x∈u,x<L)→u.foldl (Bi G kf nx) (kf a)=kf (u.foldl nx a)∧G (u.foldl nx a)
 | [],a,ha,_=>⟨F,ha⟩
 |x::u,a,ha,hu=>by
  have hx:=hu x (by simp)
  rw[cV,uu h ha hx]
  exact Ga h u (h.WI a x ha hx) fun y hy=>hu y (by simp[hy])
theorem AW {L:Nat} (h:Ot G kf nx fn L) {a:α} (ha:G a) {u:List Nat} (hu: ∀x∈u,x<L):HL G kf fn (u.foldl (Bi G kf nx) (kf a))=fn (u.foldl nx a):=by
 obtain⟨h1,h2⟩:=Ga h u ha hu
 rw[h1,AE h h2]
end
abbrev Lg:=List Nat→Bool
def jS (p q:Lg):Lg:=fun w=>(List.range (w.length+1)).any fun i=>p (w.take i)&&q (w.drop i)
def xV (p:Lg):Nat→Lg
 |0,w=>w.isEmpty
 |n+1,w=>w.isEmpty||(List.range w.length).any fun i=>p (w.take (i+1))&&xV p n (w.drop (i+1))
def oA (p:Lg):Lg:=fun w=>xV p w.length w
theorem gT {p q:Lg} {w:List Nat}:jS p q w=true↔ ∃x y,w=x++y∧p x=true∧q y=true:=by
 unfold jS
 simp only[dW,fj,aM]
 constructor
 ·rintro⟨i,_,h1,h2⟩;exact⟨_,_,(List.take_append_drop i w).symm,h1,h2⟩
 ·rintro⟨x,y,rfl,h1,h2⟩;exact⟨x.length,by simp;omega,by simpa using h1,by simpa using h2⟩
inductive iD (p:Lg):List Nat→Prop
 |nil:iD p []
 |oM {x y:List Nat}:p x=true→iD p y→iD p (x++y)
theorem iD.snoc {p:Lg} {x y:List Nat} (h:iD p x) (hy:p y=true):iD p (x++y):=by
 induction h with
 |nil=>simpa using iD.oM hy .nil
 |oM h1 _ ih=>rw[aI];exact .oM h1 ih
theorem iD.last {p:Lg} {w:List Nat} (h:iD p w):w≠ []→ ∃x y,w=x++y∧iD p x∧p y=true∧y≠ []:=by
 induction h with
 |nil=>exact fun h=>absurd F h
 | @oM x y h1 h2 ih=>
  intro hw
  by_cases hy:y=[]
  ·subst hy
   refine⟨[],x,by simp,.nil,h1,?_⟩
   rintro rfl;exact hw F
  ·obtain⟨a,b,e,h3,h4,h5⟩:=ih hy
   exact⟨x++a,b,by rw[e,aI],.oM h1 h3,h4,h5⟩
theorem uF {p:Lg}: ∀(n:Nat) (w:List Nat),w.length≤n→(xV p n w=true↔iD p w)
 |0,w,h=>by
  have:w=[]:=List.length_eq_zero_iff.1 (by omega)
  subst this;simp[xV,iD.nil]
 |n+1,w,h=>by
  unfold xV
  simp only[Bool.or_eq_true,List.isEmpty_iff,dW,fj,aM]
  constructor
  ·rintro(rfl|⟨i,hi,h1,h2⟩)
   ·exact .nil
   ·rw[←List.take_append_drop (i+1) w]
    exact .oM h1 ((uF n _ (by simp;omega)).1 h2)
  ·intro hs
   have key: ∀w,iD p w→w≠ []→ ∃x y,w=x++y∧x≠ []∧p x=true∧iD p y:=by
    intro w hw
    induction hw with
    |nil=>exact fun h=>absurd F h
    | @oM x y h1 h2 ih=>
     intro wh
     by_cases hx:x=[]
     ·subst hx;exact ih wh
     ·exact⟨x,y,F,hx,h1,h2⟩
   by_cases hw:w=[]
   ·exact .inl hw
   ·obtain⟨x,y,rfl,hx,h1,h2⟩:=key w hs hw
    have DQ:=List.length_pos_iff.2 hx
    refine .inr ⟨x.length-1,by simp;omega,?_,?_⟩
    ·rw[show x.length-1+1=x.length by omega];simpa using h1
    ·rw[show x.length-1+1=x.length by omega]
     simpa using(uF n y (by simp at h;omega)).2 h2
theorem mE {p:Lg} {w:List Nat}:oA p w=true↔iD p w:=uF _ _ (a8 _)
section
variable (a b:cM)
def vk (s:Nat) (l:List Nat):List Nat:=if dD a s then AB b.next.length l b.start.toNat else l
def Ix (q:Nat×List Nat) (x:Nat):Nat×List Nat:=(e7 a q.1 x,vk a b (e7 a q.1 x) (fN b q.2 x))
def NX:Nat×List Nat:=(a.start.toNat,vk a b a.start.toNat [])
def RS (q:Nat×List Nat):Bool:=q.2.any (dD b)
def zy (q:Nat×List Nat):Key:=iK ((q.1:Int)::q.2.map fun y:Nat=>(y:Int))
structure GC (q:Nat×List Nat):Prop where
 s:q.1<a.next.length
 RV:q.2.Pairwise (· < ·)
 lt: ∀t∈q.2,t<b.next.length
abbrev AF (L B:Nat):Prop:=HI (Bi (GC a b) zy (Ix a b)) L (zy (NX a b)) B
variable {a b}
theorem nf {n:Nat} (h:n<1000000):my (n:Int):=.inr ⟨by omega,by omega⟩
theorem Gb (hn:a.next.length≤4096) (hm:b.next.length≤4096) {q:Nat×List Nat} (h:GC a b q): ∀n∈((q.1:Int)::q.2.map fun y:Nat=>(y:Int)),my n:=fun n hn=>by
 rcases List.mem_cons.1 hn with rfl|hn
 ·exact nf (by have:=h.s;omega)
 ·obtain⟨y,hy,rfl⟩:=List.mem_map.1 hn
  exact nf (by have:=h.lt y hy;omega)
theorem Gc (hn:a.next.length≤4096) (hm:b.next.length≤4096) {q r:Nat×List Nat} (hq:GC a b q) (hr:GC a b r) (h:zy q=zy r):q=r:=by
 have:=xU (Gb hn hm hq) (Gb hn hm hr) h
 simp only[List.cons.injEq]at this
 have h2:q.2=r.2:=rm this.2
 exact Prod.ext (by omega) h2
theorem Lo (hb:Val b) {s:Nat} {l:List Nat} (ha:l.Pairwise (· < ·)) (hl: ∀t∈l,t<b.next.length):(vk a b s l).Pairwise (· < ·)∧ ∀t∈vk a b s l,t<b.next.length:=by
 unfold vk
 split
 ·exact⟨oF _ _,fun t ht=>(qO.1 ht).1⟩
 ·exact⟨ha,hl⟩
theorem ng (d:cM) (l:List Nat) (x:Nat):(fN d l x).Pairwise (· < ·)∧ ∀t∈fN d l x,t<d.next.length:=⟨oF _ _,fun t ht=>(qO.1 ht).1⟩
theorem Gd (hb:Val b) {s:Nat} {l:List Nat} (hl: ∀t∈l,t<b.next.length) {t:Nat}:t∈vk a b s l↔t∈l∨(dD a s=true∧t=b.start.toNat):=by
 unfold vk
 split
 ·rename_i h;rw[wu hl (ez hb)];simp[h]
 ·rename_i h;simp[h]
theorem GC.len {q:Nat×List Nat} (h:GC a b q) (hn:b.next.length≤4096):q.2.length≤4096:=bE (eT (h.RV.imp fun h=>Nat.ne_of_lt h) h.lt) hn
theorem GC.start (ha:Val a) (hb:Val b):GC a b (NX a b):=by
 have:=Lo (a:=a) (s:=a.start.toNat) hb (l:=[]) List.Pairwise.nil (by simp)
 exact⟨ez ha,this.1,this.2⟩
theorem GC.next (ha:Val a) (hb:Val b) {q:Nat×List Nat} (h:GC a b q) {x:Nat} (hx:x<dT a):GC a b (Ix a b q x):=by
 have h2:=ng b q.2 x
 have:=Lo (a:=a) (s:=e7 a q.1 x) hb h2.1 h2.2
 exact⟨(ha.gV h.s hx).1,this.1,this.2⟩
theorem FU (ha:Valid a) (hb:Valid b):Ot (GC a b) zy (Ix a b) (RS b) (dT a):=
 ⟨fun q r x hq hr h _=>by rw[Gc ha.n4 hb.n4 hq hr h],fun q r hq hr h=>by rw[Gc ha.n4 hb.n4 hq hr h],fun q x h hx=>h.next ha.toVal hb.toVal hx⟩
theorem C1 {α:Type} {p:List α→Prop} (h0:p []) (h1: ∀u x,p u→p (u++[x])): ∀u,p u:=fun u=>by
 have: ∀n (u:List α),u.length=n→p u:=by
  intro n
  induction n with
  |zero=>exact fun u hu=>(List.length_eq_zero_iff.1 hu)▸h0
  |succ n ih=>
   intro u hu
   have wh:u≠ []:=by rintro rfl;simp at hu
   rw[←List.dropLast_concat_getLast wh]
   exact h1 _ _ (ih _ (by simp[hu]))
 exact this _ u F
theorem Ou (ha:Val a) (hb:Val b) (hv:a.vars=b.vars): ∀(u:List Nat),(∀x∈u,x<dT a)→(u.foldl (Ix a b) (NX a b)).1=runN a a.start.toNat u∧ ∀t,t∈(u.foldl (Ix a b) (NX a b)).2↔ ∃x y,u=x++y∧iI a x=true∧runN b b.start.toNat y=t:=by
 have Z4:dT b=dT a:=by unfold dT;rw[hv]
 apply C1
 ·intro _
  refine⟨F,fun t=>?_⟩
  show t∈vk a b a.start.toNat []↔_
  rw[Gd hb (by simp)]
  constructor
  ·rintro(h|⟨h,rfl⟩)
   ·cases h
   ·exact⟨[],[],F,h,F⟩
  ·rintro⟨x,y,e,h,rfl⟩
   obtain⟨rfl,rfl⟩:=List.append_eq_nil_iff.1 e.symm
   exact .inr ⟨h,F⟩
 ·intro u z ih hu
  have MJ: ∀x∈u,x<dT a:=fun x hx=>hu x (by simp[hx])
  have hz:z<dT a:=hu z (by simp)
  obtain⟨h1,h2⟩:=ih MJ
  rw[cY,cV,List.foldl_nil]
  have hG:GC a b (u.foldl (Ix a b) (NX a b)):=by
   have: ∀(u:List Nat) (q:Nat×List Nat),GC a b q→(∀x∈u,x<dT a)→GC a b (u.foldl (Ix a b) q):=by
    intro u
    induction u with
    |nil=>exact fun q h _=>h
    |cons x u ih=>exact fun q h hx=>ih _ (h.next ha hb (hx x (by simp))) fun y hy=>hx y (by simp[hy])
   exact this u _ (.start ha hb) MJ
  refine⟨by rw[fR,←h1];rfl,fun t=>?_⟩
  show t∈vk a b (e7 a (u.foldl (Ix a b) (NX a b)).1 z) (fN b (u.foldl (Ix a b) (NX a b)).2 z)↔_
  rw[Gd hb (ng b _ z).2,rn hb hG.lt (by have:=hz;rw[←Z4]at this;exact this),h1,←fR]
  constructor
  ·rintro(⟨s,hs,rfl⟩|⟨h,rfl⟩)
   ·obtain⟨x,y,rfl,hx,rfl⟩:=(h2 s).1 hs
    exact⟨x,y++[z],by rw[aI],hx,fR _ _ _ _⟩
   ·exact⟨u++[z],[],by simp,h,F⟩
  ·rintro⟨x,y,e,hx,rfl⟩
   by_cases hy:y=[]
   ·subst hy
    simp only[cT]at e;subst e
    exact .inr ⟨hx,F⟩
   ·have e2:=List.dropLast_concat_getLast hy
    rw[←e2,←aI]at e
    obtain⟨e3,e4⟩:=List.append_inj' e F
    simp only[List.cons.injEq,and_true]at e4
    refine .inl ⟨runN b b.start.toNat y.dropLast,(h2 _).2 ⟨x,y.dropLast,e3,hx,F⟩,?_⟩
    rw[e4,←fR,e2]
theorem Ct (ha:Valid a) (hb:Valid b) (hv:a.vars=b.vars) {u:List Nat} (hu: ∀x∈u,x<dT a):HL (GC a b) zy (RS b) (u.foldl (Bi (GC a b) zy (Ix a b)) (zy (NX a b)))=jS (iI a) (iI b) u:=by
 rw[AW (FU ha hb) (.start ha.toVal hb.toVal) hu]
 obtain⟨_,h2⟩:=Ou ha.toVal hb.toVal hv u hu
 rw[eB,gT]
 unfold RS
 rw[dW]
 constructor
 ·rintro⟨t,ht,hf⟩
  obtain⟨x,y,rfl,hx,rfl⟩:=(h2 t).1 ht
  exact⟨x,y,F,hx,hf⟩
 ·rintro⟨x,y,rfl,hx,hf⟩
  exact⟨_,(h2 _).2 ⟨x,y,F,hx,F⟩,hf⟩
end
section
variable (a:cM)
def tx (q:Bool×List Nat) (x:Nat):Bool×List Nat:=(false,if(fN a q.2 x).any (dD a)then AB a.next.length (fN a q.2 x) a.start.toNat else fN a q.2 x)
def Ep:Bool×List Nat:=(true,[a.start.toNat])
def N1 (q:Bool×List Nat):Bool:=q.1||q.2.any (dD a)
def jp (q:Bool×List Nat):List Int:=if q.1 then-1::q.2.map (fun y:Nat=>(y:Int))else q.2.map (fun y:Nat=>(y:Int))
def Bj (q:Bool×List Nat):Key:=iK (jp q)
structure GS (q:Bool×List Nat):Prop where
 RV:q.2.Pairwise (· < ·)
 lt: ∀t∈q.2,t<a.next.length
abbrev Eo (L B:Nat):Prop:=HI (Bi (GS a) Bj (tx a)) L (Bj (Ep a)) B
variable {a}
theorem xD (hn:a.next.length≤4096) {q:Bool×List Nat} (h:GS a q): ∀n∈jp q,my n:=fun n hn=>by
 have h2: ∀n∈q.2.map (fun y:Nat=>(y:Int)),my n:=fun n hn=>by
  obtain⟨y,hy,rfl⟩:=List.mem_map.1 hn
  exact nf (by have:=h.lt y hy;omega)
 unfold jp at hn
 split at hn
 ·rcases List.mem_cons.1 hn with rfl|hn
  ·exact .inl F
  ·exact h2 n hn
 ·exact h2 n hn
theorem Ge (hn:a.next.length≤4096) {q r:Bool×List Nat} (hq:GS a q) (hr:GS a r) (h:Bj q=Bj r):q=r:=by
 have:=xU (xD hn hq) (xD hn hr) h
 obtain⟨f,l⟩:=q
 obtain⟨g,m⟩:=r
 unfold jp at this
 have hi: ∀ {l m:List Nat},l.map (fun y:Nat=>(y:Int))=m.map (fun y:Nat=>(y:Int))→l=m:=fun h=>rm h
 cases f<;>cases g<;>simp only[if_true,Bool.false_eq_true,if_false,List.cons.injEq,true_and]at this
 ·rw[hi this]
 ·cases l with
  |nil=>simp at this
  |cons y l=>simp only[cD,List.cons.injEq]at this;omega
 ·cases m with
  |nil=>simp at this
  |cons y l=>simp only[cD,List.cons.injEq]at this;omega
 ·rw[hi this]
theorem GS.start (ha:Val a):GS a (Ep a):=⟨by simp[Ep],fun t ht=>by simp[Ep]at ht;subst ht;exact ez ha⟩
theorem GS.next {q:Bool×List Nat} (x:Nat):GS a (tx a q x):=by
 unfold tx
 refine⟨?_,?_⟩<;>dsimp only<;>split
 ·exact oF _ _
 ·exact(ng a _ x).1
 ·exact fun t ht=>(qO.1 ht).1
 ·exact(ng a _ x).2
theorem AG (ha:Valid a):Ot (GS a) Bj (tx a) (N1 a) (dT a):=
 ⟨fun q r x hq hr h _=>by rw[Ge ha.n4 hq hr h],fun q r hq hr h=>by rw[Ge ha.n4 hq hr h],fun q x h hx=>GS.next x⟩
theorem Lp (ha:Val a): ∀(u:List Nat),(∀x∈u,x<dT a)→((u.foldl (tx a) (Ep a)).1=u.isEmpty)∧ ∀t,t∈(u.foldl (tx a) (Ep a)).2↔ ∃x y,u=x++y∧iD (iI a) x∧runN a a.start.toNat y=t:=by
 apply C1
 ·intro _
  refine⟨F,fun t=>?_⟩
  show t∈[a.start.toNat]↔_
  rw[db]
  constructor
  ·rintro rfl;exact⟨[],[],F,.nil,F⟩
  ·rintro⟨x,y,e,h,rfl⟩
   obtain⟨rfl,rfl⟩:=List.append_eq_nil_iff.1 e.symm
   rfl
 ·intro u z ih hu
  have MJ: ∀x∈u,x<dT a:=fun x hx=>hu x (by simp[hx])
  have hz:z<dT a:=hu z (by simp)
  obtain⟨_,h2⟩:=ih MJ
  have hG:GS a (u.foldl (tx a) (Ep a)):=by
   have: ∀(u:List Nat) (q:Bool×List Nat),GS a q→GS a (u.foldl (tx a) q):=by
    intro u
    induction u with
    |nil=>exact fun q h=>h
    |cons x u ih=>exact fun q h=>ih _ (GS.next x)
   exact this u _ (.start ha)
  rw[cY,cV,List.foldl_nil]
  refine⟨by simp[tx],fun t=>?_⟩
  have hm: ∀t,t∈fN a (u.foldl (tx a) (Ep a)).2 z↔ ∃x y,u=x++y∧iD (iI a) x∧runN a a.start.toNat (y++[z])=t:=fun t=>by
   rw[rn ha hG.lt hz]
   constructor
   ·rintro⟨s,hs,rfl⟩
    obtain⟨x,y,e,hx,rfl⟩:=(h2 s).1 hs
    exact⟨x,y,e,hx,fR _ _ _ _⟩
   ·rintro⟨x,y,e,hx,rfl⟩
    exact⟨_,(h2 _).2 ⟨x,y,e,hx,F⟩,(fR _ _ _ _).symm⟩
  have kZ:(fN a (u.foldl (tx a) (Ep a)).2 z).any (dD a)=true↔iD (iI a) (u++[z]):=by
   rw[dW]
   constructor
   ·rintro⟨t,ht,hf⟩
    obtain⟨x,y,rfl,hx,rfl⟩:=(hm t).1 ht
    rw[aI];exact hx.snoc hf
   ·intro h
    obtain⟨x,y,e,hx,hy,wh⟩:=h.last (by simp)
    have e2:=List.dropLast_concat_getLast wh
    rw[←e2,←aI]at e
    obtain⟨e3,e4⟩:=List.append_inj' e F
    simp only[List.cons.injEq,and_true]at e4
    refine⟨_,(hm _).2 ⟨x,y.dropLast,e3,hx,F⟩,?_⟩
    rw[e4,e2];exact hy
  show t∈(if(fN a (u.foldl (tx a) (Ep a)).2 z).any (dD a)then AB a.next.length (fN a (u.foldl (tx a) (Ep a)).2 z) a.start.toNat else fN a (u.foldl (tx a) (Ep a)).2 z)↔_
  have Qv: ∀ {x y:List Nat},u++[z]=x++y→y≠ []→ ∃y',y=y'++[z]∧u=x++y':=fun {x y} e wh=>by
   have e2:=List.dropLast_concat_getLast wh
   rw[←e2,←aI]at e
   obtain⟨e3,e4⟩:=List.append_inj' e F
   simp only[List.cons.injEq,and_true]at e4
   exact⟨y.dropLast,by rw[e4,e2],e3⟩
  by_cases hA:(fN a (u.foldl (tx a) (Ep a)).2 z).any (dD a)=true
  ·rw[aR hA,wu (ng a _ z).2 (ez ha),hm]
   constructor
   ·rintro(⟨x,y,e,hx,h⟩|rfl)
    ·exact⟨x,y++[z],by rw[e,aI],hx,h⟩
    ·exact⟨u++[z],[],by simp,kZ.1 hA,F⟩
   ·rintro⟨x,y,e,hx,h⟩
    by_cases hy:y=[]
    ·subst hy;exact .inr h.symm
    ·obtain⟨y',rfl,e3⟩:=Qv e hy
     exact .inl ⟨x,y',e3,hx,h⟩
  ·rw[ay hA,hm]
   constructor
   ·rintro⟨x,y,e,hx,h⟩
    exact⟨x,y++[z],by rw[e,aI],hx,h⟩
   ·rintro⟨x,y,e,hx,h⟩
    by_cases hy:y=[]
    ·subst hy
     simp only[cT]at e;subst e
     exact absurd (kZ.2 hx) hA
    ·obtain⟨y',rfl,e3⟩:=Qv e hy
     exact⟨x,y',e3,hx,h⟩
theorem zz (ha:Valid a) {u:List Nat} (hu: ∀x∈u,x<dT a):HL (GS a) Bj (N1 a) (u.foldl (Bi (GS a) Bj (tx a)) (Bj (Ep a)))=oA (iI a) u:=by
 rw[AW (AG ha) (.start ha.toVal) hu]
 obtain⟨h1,h2⟩:=Lp ha.toVal u hu
 rw[eB,mE]
 unfold N1
 rw[Bool.or_eq_true,h1,List.isEmpty_iff,dW]
 constructor
 ·rintro(rfl|⟨t,ht,hf⟩)
  ·exact .nil
  ·obtain⟨x,y,rfl,hx,rfl⟩:=(h2 t).1 ht
   exact hx.snoc hf
 ·intro h
  by_cases MJ:u=[]
  ·exact .inl MJ
  ·obtain⟨x,y,rfl,hx,hy,_⟩:=h.last MJ
   exact .inr ⟨_,(h2 _).2 ⟨x,y,F,hx,F⟩,hy⟩
end
end Go.Lx

namespace Go.Lx
open Go.RowKit
def gm (p n x:Nat):Bool:=decide (x&&&p=p∧x&&&n=0)
def Cx (n:Nat) (h:Nat→Bool):Lg:=fun u=>u.length==n&&u.all h
def PZ (n:Nat) (h:Nat→Bool) (s x:Nat):Int:=if s<n∧h x=true then((s+1:Nat):Int)else((n+1:Nat):Int)
def vl (L n:Nat) (h:Nat→Bool) (s:Nat):List Int:=(List.range L).map (PZ n h s)
def Er (v n:Nat) (h:Nat→Bool):cM:=⟨v,0,(List.range (n+2)).map (vl (2^v) n h),(List.replicate (n+2) false).set n true⟩
theorem HY {v n:Nat} (h:Nat→Bool) (hv:v≤6) (hn:n≤1):Valid (Er v n h):=by
 have n0:(Er v n h).next.length=n+2:=by show((List.range (n+2)).map _).length=_;simp
 refine⟨{v0:=Int.natCast_nonneg _,v6:=by show(v:Int)≤6;omega,n0:=by omega,fin:=by rw[n0];show((List.replicate (n+2) false).set n true).length=_;simp,s0:=Int.le_refl _,s1:=by rw[n0];show(0:Int)<_;omega,len:=?_,ok:=?_},by omega⟩
 ·intro r hr
  obtain⟨s,_,rfl⟩:=List.mem_map.1 (show r∈(List.range (n+2)).map _ from hr)
  show((List.range (2^v)).map _).length=2^((v:Int).toNat)
  simp
 ·intro r hr x hx
  rw[n0]
  obtain⟨s,hs,rfl⟩:=List.mem_map.1 (show r∈(List.range (n+2)).map _ from hr)
  obtain⟨y,_,rfl⟩:=List.mem_map.1 (show x∈(List.range (2^v)).map _ from hx)
  unfold PZ
  split<;>omega
theorem Tc {v n:Nat} {h:Nat→Bool} {s x:Nat} (hs:s<n+2) (hx:x<2^v):e7 (Er v n h) s x=if s<n∧h x=true then s+1 else n+1:=by
 have h1:(Er v n h).next[s]? =some (vl (2^v) n h s):=by show((List.range (n+2)).map _)[s]? =_;rw[bq,List.getElem?_range hs];rfl
 have h2:(vl (2^v) n h s)[x]? =some (PZ n h s x):=by unfold vl;rw[bq,List.getElem?_range hx];rfl
 unfold e7
 simp only[aw,h1,Option.getD_some,h2]
 unfold PZ
 split<;>exact Int.toNat_natCast _
theorem AX {v n:Nat} {h:Nat→Bool}: ∀(u:List Nat) (s:Nat),s≤n+1→(∀x∈u,x<2^v)→runN (Er v n h) s u=if s+u.length≤n∧u.all h=true then s+u.length else if u=[]then s else n+1
 | [],s,hs,_=>by
  simp only[cN,Nat.add_zero,List.all_nil]
  show s=_
  split<;>rfl
 |x::u,s,hs,hu=>by
  have Yr: ∀y∈u,y<2^v:=fun y hy=>hu y (by simp[hy])
  unfold runN
  rw[cV,Tc (by omega) (hu x (by simp))]
  by_cases hh:s<n∧h x=true
  ·rw[aR hh]
   have h1:=AX (h:=h) (n:=n) u (s+1) (by omega) Yr
   unfold runN at h1
   rw[h1]
   simp only[bL,List.all_cons,hh.2,Bool.true_and,reduceCtorEq,if_false]
   have e:s+1+u.length=s+(u.length+1):=by omega
   rw[e]
   by_cases MJ:u=[]
   ·subst MJ
    simp only[cN,List.all_nil,Nat.zero_add]
    rw[aR ⟨by omega,trivial⟩,aR ⟨by omega,trivial⟩]
   ·rw[ay MJ]
  ·rw[ay hh]
   have h1:=AX (h:=h) (n:=n) u (n+1) (by omega) Yr
   unfold runN at h1
   rw[h1]
   simp only[bL,List.all_cons,reduceCtorEq,if_false]
   rw[ay (show¬(n+1+u.length≤n∧u.all h=true)from fun h9=>by omega),ay (show¬(s+(u.length+1)≤n∧(h x&&u.all h)=true)from fun h9=>hh ⟨by omega,(Bool.and_eq_true_iff.1 h9.2).1⟩)]
   split<;>rfl
theorem nG {v n:Nat} (h:Nat→Bool) (hv:v≤6) (hn:n≤1):HasL (v:Int) 3 (Er v n h) (Cx n h):=by
 have n0:(Er v n h).next.length=n+2:=by show((List.range (n+2)).map _).length=_;simp
 refine⟨HY h hv hn,by omega,F,fun u hu=>?_⟩
 have Yr: ∀x∈u,x<2^v:=fun x hx=>by simpa using hu x hx
 unfold iI dD Cx
 show((List.replicate (n+2) false).set n true).getD (runN (Er v n h) 0 u) false=_
 rw[AX u 0 (by omega) Yr,Nat.zero_add]
 have hf: ∀k,k≤n+1→((List.replicate (n+2) false).set n true).getD k false=decide (k=n):=fun k hk=>by
  rw[aw]
  by_cases e:k=n
  ·subst e;rw[List.getElem?_set_self (by simp)];simp
  ·rw[List.getElem?_set_ne (fun h=>e h.symm),List.getElem?_replicate];simp[e];split<;>rfl
 by_cases c1:u.length≤n∧u.all h=true
 ·rw[aR c1,hf _ (by omega),c1.2,Bool.and_true]
  by_cases e:u.length=n<;>simp[e]
 ·rw[ay c1]
  by_cases e:u=[]
  ·subst e;exact absurd ⟨by simp,by simp⟩ c1
  ·rw[ay e,hf _ (by omega)]
   rw[ak (by omega)]
   symm
   rw[Bool.and_eq_false_iff]
   by_cases e2:u.length=n
   ·exact .inr (by cases h9:u.all h with|false=>rfl|true=>exact absurd ⟨by omega,h9⟩ c1)
   ·exact .inl (by simp[e2])
theorem fG {v:Nat} (hv:v≤6):HasL (v:Int) 1 (fD (v:Int) true) (fun _=>true):=
 ⟨wH (by omega) (by omega) true,by show[_].length≤1;simp,F,fun w hw=>IF (by omega) (by omega) true hw⟩
end Go.Lx

namespace Go.Lx
open Go.RowKit
inductive Rx where
 |none|empty
 |letter (p n:Nat)
 |je (a b:Rx)|jq (a b:Rx)|and (a b:Rx)
 |not (a:Rx)|star (a:Rx)|ahead (a:Rx)|behind (a:Rx)
structure eE where
 op:Nat
 p:Nat
 n:Nat
 a:Int
 b:Int
def eE.cells (x:eE):List Value:=[.int .u8 (x.op:Int),.int .u8 (x.p:Int),.int .u8 (x.n:Int),.int .i64 x.a,.int .i64 x.b]
abbrev eE.cl (x:eE):List Value:=[.int .u8 (x.op:Int),.int .u8 (x.p:Int),.int .u8 (x.n:Int),.int .i64 x.a,.int .i64 x.b]
abbrev eE.ag (x:eE):Value:=.agg #[.int .u8 (x.op:Int),.int .u8 (x.p:Int),.int .u8 (x.n:Int),.int .i64 x.a,.int .i64 x.b]
def bX (e:List eE):List Value:=e.flatMap eE.cells
theorem cz (e:List eE):(bX e).length=e.length*5:=by
 induction e with
 |nil=>rfl
 |cons x e ih=>simp only[bX,List.flatMap_cons,aF,bL]at ih⊢;rw[ih];simp[eE.cells];omega
theorem lE {e:List eE}: ∀ {i:Nat} (hi:i<e.length) (j:Nat) (h:j<e[i].cells.length),(bX e)[i*5+j]? =some e[i].cells[j]:=by
 induction e with
 |nil=>intro i hi;simp at hi
 |cons x e ih=>
  intro i hi j hj
  simp only[bX,List.flatMap_cons]
  cases i with
  |zero=>rw[Nat.zero_mul,Nat.zero_add,bI (show j<x.cells.length from hj)];exact ap hj
  |succ i=>
   have h5:x.cells.length=5:=rfl
   rw[bY (by rw[h5];omega),show(i+1)*5+j-x.cells.length=i*5+j by rw[h5];omega]
   exact ih (by simpa using hi) j hj
def sJ (e:List eE):Rx→Nat→Prop
 | .none,i=>e[i]? =some ⟨1,0,0,0,0⟩
 | .empty,i=>e[i]? =some ⟨2,0,0,0,0⟩
 | .letter p n,i=>e[i]? =some ⟨3,p,n,0,0⟩∧p<256∧n<256
 | .je a b,i=> ∃j k:Nat,e[i]? =some ⟨4,0,0,(j:Int),(k:Int)⟩∧sJ e a j∧sJ e b k
 | .jq a b,i=> ∃j k:Nat,e[i]? =some ⟨5,0,0,(j:Int),(k:Int)⟩∧sJ e a j∧sJ e b k
 | .and a b,i=> ∃j k:Nat,e[i]? =some ⟨6,0,0,(j:Int),(k:Int)⟩∧sJ e a j∧sJ e b k
 | .not a,i=> ∃j:Nat,e[i]? =some ⟨7,0,0,(j:Int),0⟩∧sJ e a j
 | .star a,i=> ∃j:Nat,e[i]? =some ⟨8,0,0,(j:Int),0⟩∧sJ e a j
 | .ahead a,i=> ∃j:Nat,e[i]? =some ⟨9,0,0,(j:Int),0⟩∧sJ e a j
 | .behind a,i=> ∃j:Nat,e[i]? =some ⟨10,0,0,(j:Int),0⟩∧sJ e a j
theorem iF {e:List eE} {i:Nat} {x:eE} (h:e[i]? =some x): ∃hi:i<e.length,e[i]=x:=by
 obtain⟨hi,h⟩:=List.getElem?_eq_some_iff.1 h;exact⟨hi,h⟩
def Rx.plain:Rx→Bool
 | .ahead _| .behind _=>false
 | .je a b| .jq a b| .and a b=>a.plain&&b.plain
 | .not a| .star a=>a.plain
 |_=>true
def gj:Rx→Lg
 | .none=>fun _=>false
 | .empty=>Cx 0 (gm 0 0)
 | .letter p n=>Cx 1 (gm p n)
 | .je a b=>jS (gj a) (gj b)
 | .jq a b=>fun u=>gj a u||gj b u
 | .and a b=>fun u=>gj a u&&gj b u
 | .not a=>fun u=>!gj a u
 | .star a=>oA (gj a)
 | .ahead a=>gj a
 | .behind a=>gj a
instance:Nonempty cM:=⟨Dv⟩
noncomputable def minOf (v:Nat) (p:Lg):cM:=Classical.epsilon fun M=>gf (v:Int) 4096 M p
theorem gU {v B:Nat} {M:cM} {p:Lg} (h:gf (v:Int) B M p) (hB:B≤4096):M=minOf v p:=by
 have h2:gf (v:Int) 4096 M p:=⟨h.toHasL.le (bE h.len hB),h.min⟩
 have h3:=Classical.epsilon_spec (p:=fun M=>gf (v:Int) 4096 M p) ⟨M,h2⟩
 exact gf.ext h2 h3 fun _ _=>rfl
def Te (f:Bool→Bool→Bool) (a b:cM) (B:Nat):Prop:=(order (bJ f a b)).length≤4096∧(t_ f a b).next.length≤B
def jY (v:Nat):Rx→Nat→Prop
 | .none,B=>(nY (fD (v:Int) true)).next.length≤B
 | .empty,B=>(fJ (Er v 0 (gm 0 0))).next.length≤B
 | .letter p n,B=>(fJ (Er v 1 (gm p n))).next.length≤B
 | .je a b,B=>jY v a B∧jY v b B∧AF (minOf v (gj a)) (minOf v (gj b)) (dT (minOf v (gj a))) B
 | .jq a b,B=>jY v a B∧jY v b B∧Te DH (minOf v (gj a)) (minOf v (gj b)) B
 | .and a b,B=>jY v a B∧jY v b B∧Te rR (minOf v (gj a)) (minOf v (gj b)) B
 | .not a,B=>jY v a B∧(nY (minOf v (gj a))).next.length≤B
 | .star a,B=>jY v a B∧Eo (minOf v (gj a)) (dT (minOf v (gj a))) B
 | .ahead a,B=>jY v a B
 | .behind a,B=>jY v a B
theorem notM {v:Int} {B C:Nat} {M:cM} {p:Lg} (h:HasL v B M p) (hl:(nY M).next.length≤C):gf v C (nY M) (fun u=>!p u):=by
 have hv:=h.valid.toVal
 have h1:=wR (f:=pU) h h (N:=M.next.length) (pV hv hv F hv F (MS.refl M) (MS.refl M)) h.valid.n4
 exact⟨h1.toHasL.le hl,h1.min⟩
theorem Ku {v B:Nat} (hv:v≤6) (hl:(nY (fD (v:Int) true)).next.length≤B):gf (v:Int) B (nY (fD (v:Int) true)) (gj .none):=notM (fG hv) hl
theorem Yg {f:Bool→Bool→Bool} {v:Int} {B C:Nat} {a b:cM} {p q:Lg} (ha:gf v B a p) (hb:gf v B b q) (ho:(order (bJ f a b)).length≤4096) (hl:(t_ f a b).next.length≤C):gf v C (t_ f a b) (fun u=>f (p u) (q u)):=by
 have h1:=wR (f:=f) ha.toHasL hb.toHasL ho (a8 _)
 exact⟨h1.toHasL.le hl,h1.min⟩
theorem jn.take {v:Int} {w:List Nat} (h:jn v w) (n:Nat):jn v (w.take n):=fun x hx=>h x (List.mem_of_mem_take hx)
theorem jn.drop {v:Int} {w:List Nat} (h:jn v w) (n:Nat):jn v (w.drop n):=fun x hx=>h x (List.mem_of_mem_drop hx)
theorem xW {α:Type} {l:List α} {f g:α→Bool} (h: ∀x∈l,f x=g x):l.any f=l.any g:=by
 induction l with
 |nil=>rfl
 |cons x l ih=>rw[List.any_cons,List.any_cons,h x (by simp),ih fun y hy=>h y (by simp[hy])]
theorem nh {v:Int} {p q p' q':Lg} (hp: ∀w,jn v w→p w=p' w) (hq: ∀w,jn v w→q w=q' w) {w:List Nat} (hw:jn v w):jS p q w=jS p' q' w:=
 xW fun i _=>by rw[hp _ (hw.take i),hq _ (hw.drop i)]
theorem vw {v:Int} {p p':Lg} (hp: ∀w,jn v w→p w=p' w): ∀(n:Nat) {w:List Nat},jn v w→xV p n w=xV p' n w
 |0,w,_=>rfl
 |n+1,w,hw=>by
  show(w.isEmpty||_)=(w.isEmpty||_)
  congr 1
  exact xW fun i _=>by rw[hp _ (hw.take _),vw hp n (hw.drop _)]
theorem qC {v:Int} {p p':Lg} (hp: ∀w,jn v w→p w=p' w) {w:List Nat} (hw:jn v w):oA p w=oA p' w:=vw hp _ hw
theorem gf.to {v:Int} {B:Nat} {M:cM} {p q:Lg} (h:gf v B M p) (hq: ∀w,jn v w→p w=q w):gf v B M q:=
 ⟨⟨h.valid,h.len,h.vars,fun u hu=>by rw[h.iI u hu];exact hq u hu⟩,h.min⟩
theorem fH {e:List eE} {i:Nat} {x:eE} (h:e[i]? =some x): ∀j (hj:j<x.cells.length),(bX e)[i*5+j]? =some x.cells[j]:=fun j hj=>by
 obtain⟨hi,rfl⟩:=iF h
 exact lE hi j hj
end Go.Lx

namespace Go.Lx
open Go.RowKit Go.ChangeShapes Go.WideShapes Go.Deep
section
variable {H:Type} {enc:TypeId×Value→H} {P:Program}
end
end Go.Lx

namespace Go.Proofs.YtgdbfideeeegmaaGreatDoor
open Go.ChangeShapes Go.WideShapes Go.ChangeAt Go.RowKit Go.Lx _root_.Go.Proofs.Tryz
set_option maxRecDepth 100000
theorem own:ownKnob Tryz.prog.godebug=none:=by kernel_rfl
theorem laidOut:laidOutB Tryz.prog=true:=by kernel_rfl
theorem MU:Tryz.prog.readableRec 25=true:=by kernel_rfl
theorem YH:25<Tryz.prog.types.size:=of_decide_eq_true (by kernel_rfl)
theorem NF:Tryz.prog.cellsOf 25=4:=by kernel_rfl
theorem NG:Tryz.prog.cellsOf 3=1:=by kernel_rfl
theorem NH:Tryz.prog.cellsOf 22=1:=by kernel_rfl
theorem NI:Tryz.prog.cellsOf 56=1:=by kernel_rfl
theorem NJ:Tryz.prog.cellsOf 23=1:=by kernel_rfl
theorem NK:Tryz.prog.cellsOf 4=1:=by kernel_rfl
theorem NL:0<Tryz.prog.bytesOf 56:=of_decide_eq_true (by kernel_rfl)
theorem NM:0<Tryz.prog.bytesOf 3:=of_decide_eq_true (by kernel_rfl)
theorem NN:0<Tryz.prog.bytesOf 4:=of_decide_eq_true (by kernel_rfl)
theorem Ul {H:Type} {enc:TypeId×Value→H} {W:World} {v:Value} {d:DataW H} {p:List MemPlace} (hw: ∀m∈d.weights Tryz.prog 25,m≤reachBytes) (h:DataW.Trod enc Tryz.prog W 0 (fun _=>true) true 25 v d p): ∃D nb fb nc fc vs,Bs Tryz.prog W v D nb fb nc fc vs:=
 I1 underlying25 NF F F F F F F F F underlying3 underlying22 underlying56 underlying23 underlying4 NG NH NI NJ NK NL NM NN hw h
def JT (cs:Array Value):Obj→Obj
 | .cells _ t frozen=>.cells cs t frozen
 |o=>o
noncomputable def uc (os:Os):World:=
 {World.holding Tryz.prog os ⟨#[],#[],[]⟩with heap:=((((World.holding Tryz.prog os ⟨#[],#[],[]⟩).heap.modify 0 (JT #[.int .u64 1,.int .u64 10,.int .u64 100,.int .u64 1000,.int .u64 10000,.int .u64 100000,.int .u64 1000000,.int .u64 10000000,.int .u64 100000000,.int .u64 1000000000,.int .u64 10000000000,.int .u64 100000000000,.int .u64 1000000000000,.int .u64 10000000000000,.int .u64 100000000000000,.int .u64 1000000000000000,.int .u64 10000000000000000,.int .u64 100000000000000000,.int .u64 1000000000000000000,.int .u64 10000000000000000000])).modify 1 (JT #[.int .u8 0,.int .u8 1,.int .u8 28,.int .u8 2,.int .u8 29,.int .u8 14,.int .u8 24,.int .u8 3,.int .u8 30,.int .u8 22,.int .u8 20,.int .u8 15,.int .u8 25,.int .u8 17,.int .u8 4,.int .u8 8,.int .u8 31,.int .u8 27,.int .u8 13,.int .u8 23,.int .u8 21,.int .u8 19,.int .u8 16,.int .u8 7,.int .u8 26,.int .u8 12,.int .u8 18,.int .u8 6,.int .u8 11,.int .u8 5,.int .u8 10,.int .u8 9])).modify 2 (JT #[.int .u8 0,.int .u8 1,.int .u8 56,.int .u8 2,.int .u8 57,.int .u8 49,.int .u8 28,.int .u8 3,.int .u8 61,.int .u8 58,.int .u8 42,.int .u8 50,.int .u8 38,.int .u8 29,.int .u8 17,.int .u8 4,.int .u8 62,.int .u8 47,.int .u8 59,.int .u8 36,.int .u8 45,.int .u8 43,.int .u8 51,.int .u8 22,.int .u8 53,.int .u8 39,.int .u8 33,.int .u8 30,.int .u8 24,.int .u8 18,.int .u8 12,.int .u8 5,.int .u8 63,.int .u8 55,.int .u8 48,.int .u8 27,.int .u8 60,.int .u8 41,.int .u8 37,.int .u8 16,.int .u8 46,.int .u8 35,.int .u8 44,.int .u8 21,.int .u8 52,.int .u8 32,.int .u8 23,.int .u8 11,.int .u8 54,.int .u8 26,.int .u8 40,.int .u8 15,.int .u8 34,.int .u8 20,.int .u8 31,.int .u8 10,.int .u8 25,.int .u8 14,.int .u8 19,.int .u8 9,.int .u8 13,.int .u8 8,.int .u8 7,.int .u8 6]))}
theorem Um {W:World} (hL:laidMetH Tryz.prog [("math/bits.deBruijn32tab",Rows.laid_math_bits_deBruijn32tab),("math/bits.deBruijn64tab",Rows.laid_math_bits_deBruijn64tab),("internal/strconv.uint64pow10",Rows.laid_internal_strconv_uint64pow10)] W):dB Tryz.prog W:=by
 have h:laidMet Tryz.prog [("math/bits.deBruijn32tab",Rows.laid_math_bits_deBruijn32tab),("math/bits.deBruijn64tab",Rows.laid_math_bits_deBruijn64tab),("internal/strconv.uint64pow10",Rows.laid_internal_strconv_uint64pow10)] W:=hL
 obtain⟨ps,h,_⟩:=h
 have hz:=h
 obtain⟨_,h⟩:=nO h
 obtain⟨_,h⟩:=nO h
 obtain⟨_,hz⟩:=nO hz
 exact dB.of (rE (g:=0) (t:=282) (e:=256) (n:=20) (by kernel_rfl) (by kernel_rfl) (by kernel_rfl) underlying282 underlying256 (by kernel_rfl) (by kernel_rfl) h) (.inr (rE (g:=2) (t:=298) (e:=5) (n:=64) (by kernel_rfl) (by kernel_rfl) (by kernel_rfl) underlying298 underlying5 (by kernel_rfl) (by kernel_rfl) hz))
end Go.Proofs.YtgdbfideeeegmaaGreatDoor

namespace Go.Lx
open Go.RowKit
theorem zj {P:Program} {r:Option Nat} {base:World} {n:Nat} {c:Code} {Q:kF} {ρ:Env} {O:List Item} (O':List Item) (L:List (Nat×Value)) (e:O=O') (h:dt L ρ) (k: ∀gP,T P r base n c Q (BD L gP) O'):T P r base n c Q ρ O:=by
 obtain⟨gP,rfl⟩:=h.elim
 subst e
 exact k gP
theorem nB {P:Program} {r:Option Nat} {base:World} {n m:Nat} {c:Code} {Q:kF} {ρ:Env} {O:List Item} (O':List Item) (L:List (Nat×Value)) (e:O=O') (h:dt L ρ) (k: ∀gP,Po P r base n c Q m (BD L gP) O'):Po P r base n c Q m ρ O:=by
 obtain⟨gP,rfl⟩:=h.elim
 subst e
 exact k gP
section
variable {P:Program} {base:World} {ρ:Env} {O:List Item} {dst:Option Nat} {t:TypeId} {p:String} {af:Array Edge} {g:Option (Nat×Bool)}
end
end Go.Lx

namespace Go.Lx
open Go.RowKit
def dA (P:Program) (base:World) (tm:Value) (f:FuncId) (args:List Value) (O:List Item) (R:Value→List Item→Prop) (Z:Prop):Prop:=
 ∀w M,Inv base (O++M) w→Calls P f args.toArray w fun e w'=>(∃v O',e=.returned v∧Inv base (O'++M) w'∧R v O')∨(e=.panicked [{v:=tm,recovered:=false}]∧Inv base M w'∧Z)
theorem dA.mono {P:Program} {base:World} {tm:Value} {f:FuncId} {args:List Value} {O:List Item} {R R':Value→List Item→Prop} {Z Z':Prop} (h:dA P base tm f args O R Z) (hr: ∀v O',R v O'→R' v O') (hz:Z→Z'):dA P base tm f args O R' Z':=
 fun w M hI=>(h w M hI).mono fun _ _ h=>h.imp (fun⟨v,O',h1,h2,h3⟩=>⟨v,O',h1,h2,hr v O' h3⟩) (fun⟨h1,h2,h3⟩=>⟨h1,h2,hz h3⟩)
theorem dA.under {P:Program} {base:World} {tm:Value} {f:FuncId} {args:List Value} {A B O:List Item} {R:Value→List Item→Prop} {Z:Prop} (h:dA P base tm f args A R Z) (hs:Sub (A++B) O):dA P base tm f args O (fun v O'=> ∃A',O'=A'++B∧R v A') Z:=
 fun w M hI=>(h w (B++M) (by have:=hI.j_ hs.oM;rwa[aI]at this)).mono fun _ _ h=>h.imp (fun⟨v,A',h1,h2,h3⟩=>⟨v,A'++B,h1,by rwa[aI],A',F,h3⟩) (fun⟨h1,h2,h3⟩=>⟨h1,h2.j_ ⟨M,List.Perm.refl _,List.sublist_append_right B M⟩,h3⟩)
theorem dA.pure {P:Program} {base:World} {tm:Value} {f:FuncId} {args:List Value} {O:List Item} {R:Value→List Item→Prop} {Z:Prop} (h: ∀w,Inv base O w→dA P w tm f args [] R Z):dA P base tm f args O (fun v O'=> ∃N,O'=N++O∧R v N) Z:=
 fun w M hI=>(h w hI.left w [] (Inv.refl w)).mono fun _ _ h=>h.imp (fun⟨v,N,h1,h2,h3⟩=>⟨v,N++O,h1,by
  have:=hI.call h2
  simpa[aI]using this,N,F,h3⟩) (fun⟨h1,h2,h3⟩=>⟨h1,by
  have:=hI.call h2
  exact this.j_ ⟨M,List.Perm.refl _,by simp⟩,h3⟩)
theorem cd.eY {P:Program} {base:World} {f:FuncId} {args:List Value} {O:List Item} {R:Value→List Item→Prop} (E:TypeId) (k:Nat) (h:cd P base f args (aq none 0 E k []::O) R):cd P base f args O R:=
 fun w M hI=>h w M (Inv.eY hI E k)
theorem Inv.jZ {base w:World} {O:List Item} (hI:Inv base O w) {b:Nat} {cs:List Value} {T:TypeId} (h:dR b (.cells cs.toArray T (0,0))∈O):Sl w (aD b) cs:=fun i hi=>by
 have hb:w.heap[b]? =some (.cells cs.toArray T (0,0)):=hI.holds _ h
 exact⟨⟨b,0,none⟩,F,F,by simp[World.cell?,hb,hi]⟩
theorem eo {P:Program} {base:World} {O:List Item} {fv:Value} {args:List Value} {R:Value→List Item→Prop} (h: ∀w,Inv base O w→eK P w fv args [] R):eK P base fv args O (fun v O'=> ∃N,O'=N++O∧R v N):=fun w M hI=>by
 have h1:=h w hI.left w [] (Inv.refl w)
 have key: ∀w' N,Inv w (N++[]) w'→Inv base (N++O++M) w':=fun w' N h2=>by
  have:=hI.call h2
  simpa[aI]using this
 revert h1
 cases(kK fv args.toArray).run P w with
 |halt e w=>exact id
 |ok y w=>
  cases y<;>first
   |exact id
   |exact fun h=>Calls.mono h fun _ _ ⟨v,N,h1,h2,h3⟩=>⟨v,N++O,h1,key _ N h2,N,F,h3⟩
   |exact fun h=>RoundIn.mono h fun _ _ ⟨v,N,h1,h2,h3⟩=>⟨v,N++O,h1,key _ N h2,N,F,h3⟩
section
variable {P:Program} {r:Option Nat} {base:World} {n:Nat} {Q:kF} {ρ:Env} {O S S2:List Item} {tail dq:List Nat} {ops:Array Oper} {K:Env→List Item→Prop} {X:PX}
def OQ (X:PX) (P:Program) (r:Option Nat) (base:World) (n:Nat) (o:Oper) (ρ:Env) (O:List Item) (K:Env→List Item→Prop):Prop:=
 ∀a w M ds,Ag n ds a ρ→Inv base (O++M) w→ ∀(next:Act→World→Prop) (Qx:Exit→Act→World→Prop),
  (∀a' gR O' w',Ag n ds a' gR→Inv base (O'++M) w'→K gR O'→next a' w')→(∀c w',X c→Inv base M w'→Qx (.panic c) a w')→o.wpIn (Fr r) 0 P a w next Qx
theorem eC {l:List Oper} {o:Oper} (hg:o.guard=none) (h:OQ X P r base n o ρ O (fun gR O'=>TO X P r base n ops l K gR O')):TO X P r base n ops (o::l) K ρ O:=
 fun Q a w M D hk ha hi=>wpListIn_plain hg fun next fm=>h a w _ _ ha hi next _ (fun a' _ _ w' h1 h2 h3=>fm a' w' (h3 Q a' w' M D hk h1 h2)) fun c w' hx hI=>⟨ρ,[],D,ha,hI,hk.2 c ρ hx⟩
theorem yi {gu:Nat} {listed:Array Bool} (i:Nat) {o:Oper} (hi:ops[i]? =some o) (hg:o.guard=none) (hr:Region.ready .any ops listed=[i])
  (h:OQ X P r base n o ρ O (fun gR O'=>(i∈tail∨Sub S O')∧(i∈dq∨Sub S2 O')∧RO X P r base n ops S tail S2 dq gu (listed.setIfInBounds i true) K gR O')):RO X P r base n ops S tail S2 dq (gu+1) listed K ρ O:=by
 intro Q a w M D hq hp ha hI n3 hS
 refine⟨fun h0=>(by rw[hr]at h0;cases h0),fun j hj=>?_⟩
 rw[hr]at hj
 obtain rfl:j=i:=by simpa using hj
 have wP:j∈Region.ready .any ops listed:=by rw[hr];simp
 have gn:j<listed.size:=by
  have:=(mem_ready.1 wP).1
  rcases Nat.lt_or_ge j listed.size with h'|h'
  ·exact h'
  ·simp[Array.getElem?_eq_none h']at this
 unfold wpOpIn
 simp only[hi]
 rw[aR (by simp[Region.wanted,hg])]
 refine h a w _ _ ha hI _ _ (fun a' gR O' w' h1 h2 h3=>?_) fun c w' hx hI=>⟨ρ,[],D,ha,hI,hp.pan c ρ hx⟩
 have rC: ∀(tl:List Nat) (Z:List Item),(j∈tl∨Sub Z O')→(tl.any fun b=>(listed.setIfInBounds j true).getD b false)=true∨Inv base Z w':=fun tl Z h3=>by
  rcases h3 with h4|h4
  ·refine .inl (List.any_eq_true.2 ⟨j,h4,?_⟩)
   simp[gn]
  ·exact .inr (h2.left.j_ h4)
 have p8:iR base S tail S2 dq (listed.setIfInBounds j true) w':=⟨h2.mq,rC _ _ h3.1,rC _ _ h3.2.1⟩
 exact⟨p8,h3.2.2 Q a' w' M D hq hp h1 h2 (iZ n3 wP) p8⟩
theorem OQ.mono {o:Oper} {K':Env→List Item→Prop} (h:OQ X P r base n o ρ O K) (hk: ∀gR O',K gR O'→K' gR O'):OQ X P r base n o ρ O K':=
 fun a w M ds ha hI next Qx fm hx=>h a w M ds ha hI next Qx (fun a' gR O' w' h1 h2 h3=>fm a' gR O' w' h1 h2 (hk _ _ h3)) hx
theorem iq {l:List (Nat×Nat)} {i:Nat} {o:Oper} (hi:ops[i]? =some o) (hg:o.guard=none)
  (h:OQ X P r base n o ρ O (fun gR O'=>Sub S O'∧DO X P r base n ops S tail [] dq l K gR O')):DO X P r base n ops S tail [] dq ((i,1)::l) K ρ O:=fun hs lx hl listed hb=>by
 simp only[jC,aM,beq_iff_eq]at hb
 refine yi i hi hg hb.1 (h.mono fun gR O' h3=>⟨.inr h3.1,.inr (cj (cm _)),h3.2 hs lx (fun q hq=>hl q (List.mem_cons_of_mem _ hq)) _ hb.2⟩)
theorem sk {l:List (Nat×Nat)} {i:Nat} {o:Oper} (hi:ops[i]? =some o) (hg:o.guard=none)
  (h:OQ X P r base n o ρ O (fun gR O'=>DO X P r base n ops S tail S2 dq l K gR O')):DO X P r base n ops S tail S2 dq ((i,2)::l) K ρ O:=fun hs lx hl listed hb=>by
 simp only[jC,aM,beq_iff_eq]at hb
 refine yi i hi hg hb.1 (h.mono fun gR O' h3=>⟨.inl ((hl (i,2) (by simp)).1.1 F),.inl ((hl (i,2) (by simp)).2.1 (.inl F)),h3 hs lx (fun q hq=>hl q (List.mem_cons_of_mem _ hq)) _ hb.2⟩)
theorem eV {d:Nat} {t:TypeId} {p:String} {af:Array Edge} {g:Option (Nat×Bool)} {f:FuncId} {fn:Func} {tm:Value} {args:List Operand} {yC:Array TypeId} {vs:List Value} {R:Value→List Item→Prop} {Z:Prop} (he:Enters P f fn)
  (hc:dA P base tm f vs O R Z) (ha:G_ ρ args=vs) (hz:Z→X [{v:=tm,recovered:=false}]) (h: ∀v O',R v O'→K (oX ρ d v) O') (hn:Nat.blt d n=true:=by rfl):
  OQ X P r base n ⟨some d,.call ⟨.value (.func f),args.toArray,yC⟩,t,p,af,g⟩ ρ O K:=by
 subst ha
 intro a w M ds ha hi next Qx fm hx
 have sU: ¬fn.name= "runtime.NumGoroutine" :=by simpa using he.2.1
 obtain⟨bd,M5⟩:=Option.isSome_iff_exists.1 he.2.2
 have hr:(execOp a.eval ⟨some d,.call ⟨.value (.func f),args.toArray,yC⟩,t,p,af,g⟩).run P w=.ok (.enter f (G_ ρ args).toArray) w:=by
  rw[ha.eval,r_]
  simp[kK,ev,Deferred.ofValue,invoke,callFunc,he.1,sU,M5]
 refine lJ (by intro c e;cases e) ?_
 rw[hr,Oper.uponIn_enter]
 refine⟨fun e=>by simp[Fr,Fence.wide]at e,mQ (Calls.mono (hc w M hi) ?_)⟩
 rintro e w' (⟨v,O',rfl,nT,hR⟩|⟨rfl,nT,hZ⟩)
 ·exact fm _ _ _ _ (ha.put hn v) nT (h v O' hR)
 ·exact hx _ _ (hz hZ) nT
theorem wl {dst:Option Nat} {t:TypeId} {p:String} {af:Array Edge} {g:Option (Nat×Bool)} {x:Operand} {T:TypeId} {u:Value} (hx:ev ρ x=.iface T u) (h:X [{v:=.iface T u,recovered:=false}]):OQ X P r base n ⟨dst,.panic x,t,p,af,g⟩ ρ O K:=by
 intro a w M ds ha hi next Qx fm hq
 refine lJ (by intro c e;cases e) ?_
 have hr:(execOp a.eval ⟨dst,.panic x,t,p,af,g⟩).run P w=.halt (.panic (.iface T u)) w:=by
  rw[ha.eval];simp[execOp,hx,Instr.panic]
 rw[hr,Oper.uponIn_panic]
 exact hq _ _ h (hi.j_ ⟨M,List.Perm.refl _,List.sublist_append_right O M⟩)
theorem ra {dst:Option Nat} {t:TypeId} {p:String} {af:Array Edge} {g:Option (Nat×Bool)} {x:Operand} {T:TypeId} {fs:Array Field} {v:Value} (hu:P.underlying T=some (.struct fs)) (hx:ev ρ x=v):QT P base ⟨dst,.makeInterface T x,t,p,af,g⟩ ρ O (.iface T v):=fun w _=>by
 simp[execOp,hx,Instr.makeInterface,bH hu]
theorem VM {dst:Option Nat} {t:TypeId} {p:String} {af:Array Edge} {g:Option (Nat×Bool)} {x:Operand} {T:TypeId} {k:IntKind} {a:Int} (hx:ev ρ x=.int k a):QT P base ⟨dst,.unOp .neg T x,t,p,af,g⟩ ρ O (.int k (k.wrap (-a))):=fun w _=>by
 simp[execOp,hx,Op.unary,Op.intArith]
theorem Kf (i:Nat) {t:TypeId} {p:String} {af:Array Edge} {g:Option (Nat×Bool)} {x:Operand} {T E:TypeId} {b o m c lo gN:Nat} {cs:List Value} {z:Value} (hu:P.underlying T=some (.slice E)) (hi:fK P E z 1 gN) (hz:z.cells= #[z]) (Ym:fu z=true)
  (hx:ev ρ x=.slice (BI (some ⟨b,o,none⟩) c lo 1) (m-lo) (c-lo)) (hlo:lo<m) (hm:m≤c) (hO:O[i]? =some (aq (some ⟨b,o,none⟩) c E 1 cs)) (h:K ρ (O.set i (aq (some ⟨b,o,none⟩) c E 1 (cs.take lo)))):
  LT P r base n ⟨none,.call ⟨.builtin .clear,#[x],#[T]⟩,t,p,af,g⟩ ρ O K:=by
 intro a w M ds ha hI next Qx fm
 obtain⟨_,full,hb,h1,h2,h3⟩:=hI.row (mP hO)
 obtain⟨fl,rfl⟩: ∃fl:List Value,full=fl.toArray:=⟨full.toList,by simp⟩
 simp only[Nat.mul_one,List.size_toArray]at h1 h2
 have hs:BI (some ⟨b,o,none⟩) c lo 1=some ⟨b,o+lo,none⟩:=by
  unfold BI;rw[ay (by omega),Option.map_some,Nat.mul_one,q5]
 have hzs:(Builtin.zeroCells z.cells (m-lo)).toList=List.replicate (m-lo) z:=by
  have:=qZ z (m-lo)
  rw[hz];simp only[Builtin.zeroCells]
  simpa using ax Array.toList this
 have Ah:=kJ (P:=P) (b:=b) (o:=o+lo) (T:=E) (List.replicate (m-lo) z) fl 0 w hb (by simp;omega) (by simp[Ym])
 have hr:(execOp a.eval ⟨none,.call ⟨.builtin .clear,#[x],#[T]⟩,t,p,af,g⟩).run P w=.ok (.value (.tuple #[])) (jL w b (.cells (fe fl (o+lo) (List.replicate (m-lo) z)).toArray E (0,0))):=by
  rw[ha.eval]
  obtain⟨k,hk⟩: ∃k,m-lo=k+1:=⟨m-lo-1,by omega⟩
  rw[hk]at hzs Ah hx⊢
  simp only[Nat.add_zero]at Ah
  simp[execOp,resolve,hx,hs,invoke,builtin,Builtin.clear_,bH hu,gJ hi,hzs,Ah]
 refine lJ (by intro c e;cases e) ?_
 rw[hr]
 refine fm _ _ _ _ ha ?_ h
 rw[←o5 hO]
 refine hI.setRow (mP hO) (by simp;omega) (by simp[iz];omega) fun j hj=>?_
 have se:j<lo∧j<cs.length:=by simp at hj;omega
 have:=h3 j se.2
 simp only[List.getElem?_toArray]at this⊢
 rw[mO _ _ _ _ (by simp;omega),ay (by omega),this]
 simp
def Xz (P:Program) (base:World) (fn:Func) (tm:Value) (R:Value→List Item→Prop) (Z:Prop):kF
 | .normal,ρ,O=>ru P base fn ρ O R
 | .ret,ρ,O=>ru P base fn ρ O R
 | .panic c,_,_=>c=[{v:=tm,recovered:=false}]∧Z
 |_,_,_=>False
theorem rL {fn:Func} {tmps:Array Value} {M O':List Item} {c:List PanicEntry} {Rx:Ending→World→Prop} (h: ∀w,Inv base (O'++M) w→Rx (.panicked c) w):
  ∀(D:List Nat) (w:World),Inv base (O'++(mI D++M)) w→LeavesInM Fence.wide 0 P fn tmps Rx (mD D) (.panicking c) w
 | [],w,hI=>h w hI
 |b::D,w,hI=>by
  have nT:Inv base (O'++uX b::(mI D++M)) w:=hI
  have hb:w.heap[b]? =some (.deferred (some [])):=nT.holds (uX b) (by simp)
  refine⟨by simp,.inl ⟨b,w.putObj b (.deferred none),F,run_takeDeferred hb,rL h D _ ?_⟩⟩
  have:=Inv.step (N:=[]) (w':=w.putObj b (.deferred none)) nT F F F (by simp) (fun k _ hk=>World.putObj_heap_other (fun e=>hk (by simp[uX,dR,e]))) (by simp) (by simp) (by simp)
  simpa using this
theorem dL {f:FuncId} {fn:Func} {tm:Value} {c:Code} {args:List Value} {R:Value→List Item→Prop} {Z:Prop} (hf:P.funcs[f]? =some fn) (hb:fn.body=some c) (hn:fn.ntmps=n) (hl:Nat.ble args.length n=true)
  (h:T P none base n c (Xz P base fn tm R Z) (entry args) O):dA P base tm f args O R Z:=by
 have hl:=Nat.le_of_ble_eq_true hl
 intro w M hI
 rw[←callsIn_wide (n:=0)]
 refine callsIn_of_wp_marks hf hb trivial (wpIn_mono (h _ w M [] trivial ⟨?_,?_,F⟩ hI) ?_)
 ·intro t
  show(args.toArray++Array.replicate (fn.ntmps-args.toArray.size) undef).getD t undef=args.getD t undef
  rw[dp,aw]
  by_cases h:t<args.length
  ·rw[Array.getElem?_append_left (by simpa using h)];simp
  ·rw[Array.getElem?_append_right (by simpa using h)]
   have:args[t]? =none:=by simp;omega
   rw[this,Array.getElem?_replicate]
   split<;>rfl
 ·simp;omega
 ·have key: ∀(a':Act) (w':World) (gR:Env) (O':List Item) (D:List Nat),Ag n (mD D) a' gR→Inv base (O'++(mI D++M)) w'→ru P base fn gR O' R→
    LeavesInM Fence.wide 0 P fn a'.tmps (fun e MZ=>(∃v O',e=.returned v∧Inv base (O'++M) MZ∧R v O')∨(e=.panicked [{v:=tm,recovered:=false}]∧Inv base M MZ∧Z)) a'.defers .returning w':=by
   intro a' w' gR O' D h1 h2 h3
   obtain⟨v,yn,yy,hR,hr⟩:=h3.ex
   rw[h1.defers]
   exact o6 (fun w hI=>⟨v,hr w a'.tmps hI.left h1.tmp,.inl ⟨v,yn,F,hI.j_ yy.oM,hR⟩⟩) D w' h2
  rintro e a' w' ⟨gR,O',D,h1,h2,h3⟩
  cases e with
  |normal=>exact key a' w' gR O' D h1 h2 h3
  |ret=>exact key a' w' gR O' D h1 h2 h3
  |panic ch=>
   obtain⟨rfl,hz⟩:=h3
   show LeavesInM Fence.wide 0 P fn a'.tmps _ a'.defers _ w'
   rw[h1.defers]
   exact rL (O':=O') (fun w hI=>.inr ⟨F,hI.j_ ⟨M,List.Perm.refl _,List.sublist_append_right O' M⟩,hz⟩) D w' h2
  |_=>exact h3.elim
end
end Go.Lx

namespace Go.Proofs.YtgdbfideeeegmaaGreatDoor
open Go.Lx Go.RowKit _root_.Go.Proofs.Tryz
theorem gB.u8 {P:Program} {kt:TypeId} {k:IntKind} (hu:P.underlying kt=some (.int k)):gB P kt (fun a:Nat=>Value.int .u8 (a:Int)) where
 check:=fun e a w=>by
  show(Instr.checkKey e (9999+1) kt _).run P w=_
  rw[Instr.checkKey]
  simp[bH hu,str]
 find:=fun es ks a w h=>by
  have key: ∀(es:List MapEntry) (ks:List Nat) (i:Nat),es.map (·.key)=ks.map (fun a:Nat=>Value.int .u8 (a:Int))→Instr.findNow (.int k) (.int .u8 (a:Int)) es i=some (lj a ks es i):=by
   intro es
   induction es with
   |nil=>intro ks i h;cases ks<;>simp_all[Instr.findNow,lj]
   |cons e es ih=>
    intro ks i h
    cases ks with
    |nil=>simp at h
    |cons b ks=>
     simp only[cD,List.cons.injEq]at h
     simp only[Instr.findNow,h.1,Instr.sameNow,if_true,lj]
     by_cases e:a=b
     ·simp[e]
     ·have:((a:Int)==(b:Int))=false:=by rw[beq_eq_false_iff_ne];omega
      simp[this,e,ih ks (i+1) h.2]
  simp[Instr.findKey,bH hu,key es ks 0 h]
def jH:Nat→List UInt8×List UInt8×List UInt8
 |4=>([40],[46],[41])|5=>([40],[124],[41])|6=>([40],[38],[41])|7=>([40,126],[],[41])|8=>([40],[],[42,41])|9=>([40,62],[],[41])|10=>([40,60],[],[41])|_=>([],[],[])
def dQ (n:Nat):Nat:=if n=4∨n=5∨n=6 then 2 else if n=7∨n=8∨n=9∨n=10 then 1 else 0
def CT (n:Nat):Value:=.agg #[vI (dQ n:Int),str (jH n).1,str (jH n).2.1,str (jH n).2.2]
abbrev CU (m:Nat):Lx.Item:=dz (fun a:Nat=>Value.int .u8 (a:Int)) CT m [(4,4),(5,5),(6,6),(7,7),(8,8),(9,9),(10,10)]
theorem tC (n:Nat):((lT n [(4,4),(5,5),(6,6),(7,7),(8,8),(9,9),(10,10)]).map CT).getD (.agg #[vI 0,str [],str [],str []])=CT n:=by
 by_cases h:4≤n∧n≤10
 ·obtain⟨h1,h2⟩:=h
  have:n=4∨n=5∨n=6∨n=7∨n=8∨n=9∨n=10:=by omega
  rcases this with rfl|rfl|rfl|rfl|rfl|rfl|rfl<;>rfl
 ·have h4:n≠4:=by omega
  have h5:n≠5:=by omega
  have h6:n≠6:=by omega
  have h7:n≠7:=by omega
  have h8:n≠8:=by omega
  have h9:n≠9:=by omega
  have TR:n≠10:=by omega
  have hx:jH n=([],[],[]):=by unfold jH;split<;>first|omega|rfl
  have hc:dQ n=0:=by unfold dQ;rw[ay (by omega),ay (by omega)]
  unfold CT;rw[hx,hc]
  simp[lT,h4,h5,h6,h7,h8,h9,TR]
def oy (v p n:Nat):Nat:=if 2^v≤(p|||n)then 7 else if p&&&n≠0 then 2 else 0
def fY (v:Nat) (x:eE):Nat:=if x.op<1∨10<x.op then 6 else if(x.op≠3∧(x.p|||x.n)≠0)∨(dQ x.op<1∧x.a≠0)∨(dQ x.op<2∧x.b≠0)then 2 else if x.op=3 then oy v x.p x.n else 0
theorem pk (w:World) [dB Tryz.prog w]:
  cA Tryz.prog 56 [] w fun v N=> ∃m,v=.map (some m)∧N=[CU m]:=by
 refine aG func56 F ntmps56 F ?_
 refine ai (aj F (ae (ai (ao F (lz (fun a:Nat=>Value.int .u8 (a:Int)) CT (fun m1=>?_))))))
 refine ad (cF (cs:=[vI 2,(str [40]),(str [46]),(str [41])]) sw lr (by kernel_rfl)) (ao F (fT (a:=(4:Nat)) (v:=(4:Nat)) 0 vU (gB.u8 fF) F F F F (by decide) ?_))
 refine ad (cF (cs:=[vI 2,(str [40]),(str [124]),(str [41])]) sw lr (by kernel_rfl)) (ao F (fT (a:=(5:Nat)) (v:=(5:Nat)) 0 vU (gB.u8 fF) F F F F (by decide) ?_))
 refine ad (cF (cs:=[vI 2,(str [40]),(str [38]),(str [41])]) sw lr (by kernel_rfl)) (ao F (fT (a:=(6:Nat)) (v:=(6:Nat)) 0 vU (gB.u8 fF) F F F F (by decide) ?_))
 refine ad (cF (cs:=[vI 1,(str [40,126]),(str []),(str [41])]) sw lr (by kernel_rfl)) (ao F (fT (a:=(7:Nat)) (v:=(7:Nat)) 0 vU (gB.u8 fF) F F F F (by decide) ?_))
 refine ad (cF (cs:=[vI 1,(str [40]),(str []),(str [42,41])]) sw lr (by kernel_rfl)) (ao F (fT (a:=(8:Nat)) (v:=(8:Nat)) 0 vU (gB.u8 fF) F F F F (by decide) ?_))
 refine ad (cF (cs:=[vI 1,(str [40,62]),(str []),(str [41])]) sw lr (by kernel_rfl)) (ao F (fT (a:=(9:Nat)) (v:=(9:Nat)) 0 vU (gB.u8 fF) F F F F (by decide) ?_))
 refine ad (cF (cs:=[vI 1,(str [40,60]),(str []),(str [41])]) sw lr (by kernel_rfl)) (ao F (fT (a:=(10:Nat)) (v:=(10:Nat)) 0 vU (gB.u8 fF) F F F F (by decide) ?_))
 refine ah F (aj F (ae (aN (az ?_))))
 refine aT (.map (some m1)) Tryz.results56 F ?_
 exact⟨[CU m1],Sub.rf,m1,F,F⟩
theorem ir (w:World) [dB Tryz.prog w] (p n v:Nat) (hp:p<256) (hn:n<256) (hv:v≤6):
  cA Tryz.prog 171 [.agg #[v8 p,v8 n],vN v] w fun r N=>r=vI (oy v p n:Int)∧N=[]:=by
 refine aG func171 F ntmps171 F ?_
 have QH:2^v≤2^6:=bO (by decide) hv
 have ZW:(p|||n)<2^8:=Nat.or_lt_two_pow hp hn
 refine ai (ao F (dE (cs:=[v8 p,v8 n]) F F (fun nP=>?_)))
 refine aj F (ae (aO (aU (aO (ai (ah F (ad (aA (cR F F) (ak (by omega))) (ah F (aB F F (aK F) (aB F F (aA (gH F F) (ak (by omega))) (ad (b_ F F) (aj F (ae (a_ F ?_))))))))))))))
 refine fQ [(0,0),(1,0),(2,0),(3,0),(4,0),(5,0),(6,0),(7,0),(8,0),(9,0)] ?_
 refine au F (bj kQ F dF F F) (au F (bn 0 fF F F F F) (au F (bj kQ F dF F F) (au F (bn 0 fF F F F F) (au F (Q8 (a:=p) (b:=n) .u8 F F (by simp only[IntKind.bits];omega) (by simp only[IntKind.bits];omega)) (au F (fS fF dS F (gO (by omega))) (au F (aK F) (au F (nL (v:=v) F F (by omega)) (au F (lR F F) (au F (cq F) ?_)))))))))
 refine cy ?_
 refine aP F (fun hc=>?_) (fun hc=>?_)
 ·have Y5:p|||n≥2^v:=by omega
  refine ai (aj F (ae (aN (az ?_))))
  refine aT (vI 7) Tryz.results171 F ?_
  exact⟨[],Sub.z,by unfold oy;rw[aR (by omega)];rfl,F⟩
 have Y6: ¬p|||n≥2^v:=by omega
 refine ai (ad (bj kQ F dF F F) (ad (bn 0 fF F F F F) (ad (bj kQ F dF F F) (ad (bn 0 fF F F F F) (ad (Ft (a:=p) (b:=n) .u8 F F (by show _<256;omega) (by show _<256;omega)) (ad (dP F F) (aj F (ae (aP F (fun hc=>?_) (fun hc=>?_))))))))))
 ·have uU:p&&&n≠0:=by omega
  refine ai (aj F (ae (aN (az ?_))))
  refine aT (vI 2) Tryz.results171 F ?_
  exact⟨[],Sub.z,by unfold oy;rw[ay (by omega),aR (by omega)];rfl,F⟩
 have wN: ¬p&&&n≠0:=by omega
 refine aE (ai (aj F (ae (aN (az ?_)))))
 refine aT (vI 0) Tryz.results171 F ?_
 exact⟨[],Sub.z,by unfold oy;rw[ay (by omega),ay (by omega)];rfl,F⟩
end Go.Proofs.YtgdbfideeeegmaaGreatDoor


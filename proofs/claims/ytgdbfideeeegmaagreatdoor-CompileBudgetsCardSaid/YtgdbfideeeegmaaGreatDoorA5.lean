/- Contracts of functions of the program, and what they answer. Conditions: those each theorem names. -/
import Derived.Test.YtgdbfideeeegmaaGreatDoorA4
import Derived.Test.YtgdbfideeeegmaaGreatDoorA2
import Derived.Test.YtgdbfideeeegmaaGreatDoorA1
import Derived.OpenShut
import Derived.Deep.DeepHandedRow
import Derived.Deep.Matrix
import Derived.Deep.Grids
import Derived.WideKeyArgs
import Derived.SizedLaws
import Derived.Shelf.Sort.Plain
import Derived.Shelf.Slices.In.SortNone
import Derived.Shelf.Slices.CompactI
import Derived.Shelf.Slices.SearchI
import Derived.Shelf.Slices.Empties
import Derived.Shelf.Spec.SlicesInsert
import Derived.Shelf.Spec.SlicesInsertGrow
import Derived.Deep.Slices
import Derived.Test.YtgdbfideeeegmaaGreatDoorCards
import Derived.Test.YtgdbfideeeegmaaGreatDoorTie
import Derived.WalkKit
import Derived.ProofKit
import Derived.Lib.LaidTab
set_option linter.unusedSectionVars false
set_option linter.unusedSimpArgs false
set_option linter.unusedVariables false
set_option linter.unnecessarySimpa false
set_option maxHeartbeats 8000000
set_option maxRecDepth 20000
namespace Go.Lx
open Go.RowKit
def zv:bU:=⟨0,0,[],[]⟩
def fA (a b:bU):Nat:=if cE a≠0 then cE a else if cE b≠0 then cE b else if a.vars≠b.vars then 7 else 0
def Gn (f:Bool→Bool→Bool) (a b:bU):bU:=if fA a b=0 then rV f a b else zv
theorem nW {a b:bU}:fA a b=0↔Valid a∧Valid b∧a.vars=b.vars:=by
 unfold fA
 rw[←dq,←dq]
 split
 ·rename_i h;constructor
  ·intro e;exact absurd e h
  ·intro e;exact absurd e.1 h
 ·rename_i h1;split
  ·rename_i h;constructor
   ·intro e;exact absurd e h
   ·intro e;exact absurd e.2.1 h
  ·rename_i h2;split
   ·rename_i h;constructor
    ·intro e;exact absurd e (by decide)
    ·intro e;exact absurd e.2.2 h
   ·rename_i h;constructor
    ·intro _;exact⟨by omega,by omega,Classical.not_not.1 h⟩
    ·intro _;rfl
theorem zw {a b:bU} (h:cE a≠0):fA a b=cE a:=by unfold fA;rw[if_pos h]
theorem xY {a b:bU} (h:cE a=0) (h2:cE b≠0):fA a b=cE b:=by unfold fA;rw[if_neg (by omega),if_pos h2]
theorem B4 {a b:bU} (h:cE a=0) (h2:cE b=0) (h3:a.vars≠b.vars):fA a b=7:=by unfold fA;rw[if_neg (by omega),if_neg (by omega),if_pos h3]
theorem GD {f:Bool→Bool→Bool} {a b:bU} (h:fA a b=0):Gn f a b=rV f a b:=by unfold Gn;rw[if_pos h]
theorem Kz {f:Bool→Bool→Bool} {a b:bU} (h:fA a b≠0):Gn f a b=zv:=by unfold Gn;rw[if_neg h]
def un (n c:Nat):Int×Int:=(((c/n:Nat):Int),((c%n:Nat):Int))
theorem GF {n c e:Nat} (h:un n c=un n e):c=e:=by
 unfold un at h
 simp only[Prod.mk.injEq]at h
 have h1:c/n=e/n:=by omega
 have h2:c%n=e%n:=by omega
 rw[←Nat.div_add_mod c n,←Nat.div_add_mod e n,h1,h2]
abbrev MH (n c:Nat):List Value:=[.int .i64 ((c/n:Nat):Int),.int .i64 ((c%n:Nat):Int)]
def jM (n:Nat) (ks:List Nat):List Value:=ks.flatMap (MH n)
theorem GG (n:Nat) (ks:List Nat) (c:Nat):jM n (ks++[c])=jM n ks++MH n c:=by simp[jM]
theorem xZ (n:Nat): ∀ks:List Nat,(jM n ks).length=ks.length*2
 | []=>rfl
 |c::ks=>by
  have:=xZ n ks
  simp only[jM,List.flatMap_cons,List.length_append,List.length_cons,List.length_nil]at this⊢
  omega
theorem Dl {n:Nat}: ∀ {ks:List Nat} {i c:Nat},ks[i]? =some c→ ∀j (h:j<(MH n c).length),(jM n ks)[i*2+j]? =some (MH n c)[j]
 | [],i,c,h,_,_=>by simp at h
 |e::ks,0,c,h,j,hj=>by
  simp only[List.getElem?_cons_zero,Option.some.injEq]at h
  subst h
  rw[Nat.zero_mul,Nat.zero_add,show jM n (e::ks)=MH n e++jM n ks from F,List.getElem?_append_left hj]
  exact List.getElem?_eq_getElem hj
 |e::ks,i+1,c,h,j,hj=>by
  rw[show jM n (e::ks)=MH n e++jM n ks from F,List.getElem?_append_right (by show 2≤_;omega),show(i+1)*2+j-(MH n e).length=i*2+j by show(i+1)*2+j-2=_;omega]
  exact Dl (by simpa using h) j hj
abbrev pmap (n:Nat) (ks:List Nat):List ((Int×Int)×Nat):=(ks.map (un n)).zipIdx
theorem B5 {n c:Nat} {ks:List Nat}:un n c∈ks.map (un n)↔c∈ks:=by
 constructor
 ·intro h
  obtain⟨e,he,h2⟩:=List.mem_map.1 h
  rw[←GF h2];exact he
 ·exact fun h=>List.mem_map_of_mem h
theorem GH (n c:Nat): ∀ks:List Nat,ix (un n c) (ks.map (un n))=ix c ks
 | []=>rfl
 |e::ks=>by
  simp only[List.map_cons,ix,GH n c ks]
  by_cases h:c=e
  ·rw[h];simp
  ·rw[if_neg (fun h2=>h (GF h2)),if_neg h]
theorem E3 (n:Nat) (ks:List Nat) (c:Nat):pmap n (ks++[c])=pmap n ks++[(un n c,ks.length)]:=by
 show((ks++[c]).map (un n)).zipIdx=_
 rw[List.map_append,List.zipIdx_append];simp
theorem GI (n:Nat) (ks:List Nat):(pmap n ks).map Prod.fst=ks.map (un n):=jN _ 0
def pH (d:bU) (o:Nat):List Int:=(pY d o).map fun x:Nat=>(x:Int)
theorem pZ (d:bU):(db d).next=(order d).map (pH d):=B6 d
theorem B7 (d:bU):(db d).ax=(order d).map (cF d):=rfl
theorem GJ {d:bU} {i o:Nat} (h:(b_ d i)[i]? =some o) (hi:i≤d.next.length):(order d)[i]? =some o:=by
 obtain⟨hl,e⟩:=List.getElem?_eq_some_iff.1 h
 obtain⟨r,hr⟩:=gZ d i d.next.length hi
 show(b_ d d.next.length)[i]? =_
 rw[←hr,List.getElem?_append_left hl];exact h
theorem take_at {α:Type} {l:List α} {i:Nat} {o:α} (h:l[i]? =some o):l.take (i+1)=l.take i++[o]:=by
 obtain⟨hl,e⟩:=List.getElem?_eq_some_iff.1 h
 rw[List.take_succ_eq_append_getElem hl,e]
theorem wO {f:Bool→Bool→Bool} {a b:bU} {o:Nat} (ho:o<a.next.length*b.next.length):cF (aU f a b) o=f (cF a (o/b.next.length)) (cF b (o%b.next.length)):=by
 obtain⟨h1,h2⟩:=l8 ho
 have:=zp (f:=f) h1 h2
 rwa[Nat.div_add_mod']at this
theorem Dm {f:Bool→Bool→Bool} {a b:bU} {N:Nat} (va:Valid a) (vb:Valid b) (hv:a.vars=b.vars) (h:(b_ (aU f a b) N).length=N):order (aU f a b)=b_ (aU f a b) N:=
 nX h (by have:=iO (f:=f) va vb hv N;rw[gY];omega)
theorem wP (E:TypeId) (qs:List Rec) (r:Rec):a_ E (qs++[r])=a_ E qs++[r.qG E]:=List.map_append
theorem Sub.fold (A:List Item) (x:Item) (B S S':List Item) (h:S'=S++[x]):Sub ((A++S')++B) ((A++(x::B))++S):=by
 subst h
 refine⟨_,?_,List.Sublist.refl _⟩
 have h1:(A++(S++[x]))++B=A++(S++(x::B)):=by simp
 have h2:(A++(x::B))++S=A++((x::B)++S):=by simp
 rw[h1,h2]
 exact List.Perm.append_left A List.perm_append_comm
end Go.Lx

namespace Go.Lx
open Go.RowKit
theorem sU {d:bU}:fA d d=cE d:=by
 unfold fA
 by_cases h:cE d=0<;>simp[h]
abbrev RC:DK:=⟨none,0,none,0,[]⟩
theorem x0 {P:Program} {base:World} {f:FuncId} {args:List Value} {O:List Item} {R:Value→List Item→Prop} (II Bo I:TypeId) (h:bm P base f args O R):bm P base f args O (fun v O'=> ∃O2,O'=dI II Bo I zv RC::O2∧R v O2):=
 (eK II 1 (eK Bo 1 h)).MI fun v O' hR=>by
  obtain⟨O2,rfl,O3,rfl,h3⟩:=hR
  exact⟨nums RC.qs=zv.next,[am Option.none 0 II 1 [],am Option.none 0 Bo 1 []]++[],O3,F,F,O3,F,h3⟩
theorem mR {d:bU} (hv:Valid d) {s:Nat} (hs:s<d.next.length):(bf d.ax)[s]? =some (.bool (cF d s)):=by
 have hl:s<d.ax.length:=by rw[hv.fin];exact hs
 rw[fY hl];unfold cF;rw[List.getD_eq_getElem?_getD,List.getElem?_eq_getElem hl];rfl
theorem uy {d:bU} (hv:Valid d) {s x:Nat} (hs:s<d.next.length) (hx:x<2^d.vars.toNat):(ints d.next[s])[x]? =some (.int .i64 ((dY d s x:Nat):Int)):=by
 obtain⟨_,_,h2,e⟩:=hv.fF hs hx
 rw[fp h2,e]
end Go.Lx

namespace Go.Lx
open Go.RowKit
theorem uz {v:Int} {n:Nat} {d:bU} {p:List Nat→Bool} (h:HasL v n d p):d.next.length<9223372036854775807∧(∀r∈d.next,r.length<9223372036854775807)∧d.ax.length<9223372036854775807:=
 ⟨by have:=h.valid.n4;omega,h.valid.uA,by have:=h.valid.fin;have:=h.valid.n4;omega⟩
end Go.Lx

namespace Go.Lx
open Go.RowKit
theorem HasL.le {v:Int} {n m:Nat} {a:bU} {p:List Nat→Bool} (ha:HasL v n a p) (h:a.next.length≤m):HasL v m a p:=⟨ha.valid,h,ha.vars,ha.gq⟩
end Go.Lx

namespace Go.Lx
open Go.RowKit
end Go.Lx

namespace Go.Lx
open Go.RowKit Go.ChangeShapes Go.WideShapes Go.Deep
section
variable {H:Type} {enc:TypeId×Value→H} {P:Program}
theorem pI (hl:laidOutB P=true) {W W':World} {Yu:Nat→Bool}: ∀ {ts:List TypeId} {vs:List Value} {ds:List (DataW H)} {ps:List MemPlace},
  (∀t∈ts,P.readableRec t=true∧t<P.types.size)→DataW.TrodAll enc P W 0 (fun _=>true) true ts vs ds ps→(∀p∈ps,W.sameAt W' p)→(∀p∈ps,Yu p.block=true)→DataW.TrodAll enc P W' 0 Yu true ts vs ds ps
 | [],_,_,_,_,h,_,_=>by
  obtain⟨rfl,rfl,rfl⟩:=trodAll_nil h
  rfl
 |t::ts,_,_,_,hr,h,hs,wl=>by
  obtain⟨v,Z2,d,Z3,p,q,rfl,rfl,rfl,h1,h2⟩:=trodAll_cons h
  have ht:=hr t (by simp)
  exact⟨p,q,WideElems.Trod_stays hl ht.1 ht.2 h1 (fun x hx=>hs x (List.mem_append_left _ hx)) (fun x hx=>wl x (List.mem_append_left _ hx)),
   pI hl (fun t ht=>hr t (by simp[ht])) h2 (fun x hx=>hs x (List.mem_append_right _ hx)) (fun x hx=>wl x (List.mem_append_right _ hx)),F⟩
theorem GN {f:Func} {s:ChangeSpec} {W W':World} {args:Array Value} {ds gs:List (DataW H)} {before:List MemPlace} {tb:TypeId}
  (hl:laidOutB P=true) (hr: ∀t∈f.params.toList,P.readableRec t=true∧t<P.types.size) (RK:f.resultTypes= #[tb]) (hb:P.underlying tb=some .bool) (hv:s.vars=[])
  (hW:DataW.Whole enc P f.params.toList s.vars false W args.toList ds gs before)
  (h1:(s.fn H ds).results=[.lit (.bool true)]) (h2:(s.fn H ds).args=ds) (h3:(s.fn H ds).vars=[])
  (hB:Below W.heap.size W W'):s.post enc P f false true false false W args (.bool true) W':=by
 have V4:=hW
 obtain⟨p,q,hA,hV,rfl,hz,hn⟩:=hW
 rw[hv]at hV
 obtain⟨rfl,rfl⟩:=trodVars_none hV
 simp only[List.append_nil]at V4 hz hn
 have eV:=V4.lt
 have RL: ∀x∈p,W.sameAt W' x:=fun x hx=>hB.same (eV x hx)
 have Do: ∀sp:Nat→Bool,(∀x∈p,sp x.block=true)→DataW.TrodAll enc P W' 0 sp true f.params.toList args.toList (s.fn H (ds++[])).args p:=fun sp wl=>by
  rw[List.append_nil,h2]
  exact pI hl hr hA RL wl
 have wS: ∀sp:Nat→Bool,DataW.TrodVars enc P W' sp s.vars (s.fn H (ds++[])).vars []:=fun sp=>by
  rw[List.append_nil,hv,h3];rfl
 have Dp: ∀(b:Nat) (sp:Nat→Bool) (hd:Bool),DataW.TrodAll enc P W' b sp hd f.resultTypes.toList ((Value.bool true).resultList f.resultTypes.size) (s.fn H (ds++[])).results []:=fun b sp hd=>by
  rw[List.append_nil,h1,RK]
  exact trodAll_cons_mk (shut_bool hb _) trodAll_mk0
 have hold: ∀x∈p,(fun b=>decide (b<W.heap.size)) x.block=true:=fun x hx=>by simpa using eV x hx
 refine⟨ds,[],p,[],p,[],V4,Dp _ _ _,Do _ hold,wS _,World.keptBut_mono (fun x hx=>⟨hx,?_⟩) (hB.frame _),fun _=>?_⟩
 ·exact Or.inr (by simpa using hx)
 ·refine⟨ok_one RK F (okWide_bool_mk hb _),_,_,([]++p)++[],⟨[]++p,[],trodAll_append (Do _ (fun _ _=>rfl)) (Dp _ _ _),wS _,F,?_,?_⟩,?_⟩
  ·intro b off hx
   have qO:MemPlace.cell b off∈p:=by simpa using hx
   rw[hB.frozen (p:=⟨b,off,none⟩) (eV _ qO)]
   exact hz b off qO
  ·intro ha;cases ha
  ·intro x hx _
   simpa using hx
theorem GV {w:World} {a:Addr} {v:Value} (h:w.cell? a=some v):a.spot=none:=by
 unfold World.cell? at h
 cases e:a.spot with
 |none=>rfl
 |some x=>rw[e]at h;split at h<;>simp at h
theorem x4 {w:World} {a:Addr} {cs:List Value} (h: ∀i (hi:i<cs.length),w.cell? (a.add i)=some cs[i]):Sl w (some a) cs:=fun i hi=>by
 have h0:=h 0 (by omega)
 have h1:=h i hi
 have h2:a.spot=none:=GV (a:=a) (by simpa[Addr.add]using h0)
 refine⟨a,F,h2,?_⟩
 have e:a.add i=⟨a.block,a.off+i,none⟩:=by
  unfold Addr.add
  split
  ·rename_i h;subst h
   cases a with
   |mk b o s=>simp at h2;subst h2;rfl
  ·rfl
 rw[←e];exact h1
theorem sX (e:TypeId): ∀ {l:List (DataW H)} {d:DataW H},d∈l→ ∀m∈d.weights P e,m∈DataW.weightsAll P e l
 | [],_,h,_,_=>by cases h
 |x::l,d,h,m,hm=>by
  rw[DataW.weightsAll,List.mem_append]
  rcases List.mem_cons.1 h with rfl|h
  ·exact .inl hm
  ·exact .inr (sX e h m hm)
theorem zE {t e:TypeId} {uC spare:List (DataW H)} (ht:P.underlying t=some (.slice e)) (he:0<P.bytesOf e) (h: ∀m∈(DataW.slice uC spare).weights P t,m≤reachBytes):
  uC.length≤reachBytes∧ ∀d∈uC,∀m∈d.weights P e,m≤reachBytes:=by
 have hw:(DataW.slice uC spare).weights P t=(uC.length+spare.length)*P.bytesOf e::(DataW.weightsAll P e uC++DataW.weightsAll P e spare):=by
  rw[DataW.weights,ht]
 rw[hw]at h
 refine⟨?_,fun d hd m hm=>h m (List.mem_cons_of_mem _ (List.mem_append_left _ (sX e hd m hm)))⟩
 have h1:=h _ List.mem_cons_self
 have h2:=Nat.mul_le_mul_left (uC.length+spare.length) (show 1≤P.bytesOf e from he)
 omega
theorem Og {n:Int} (h:(Lit.int .u8 n).wf=true):0≤n∧n<256:=by
 simp only[Lit.wf,Bool.and_eq_true,decide_eq_true_eq]at h
 have h1:(0:Int)≤n:=h.1
 have h2:n≤255:=h.2
 omega
end
end Go.Lx

namespace Go.Lx
open Go.RowKit
theorem uD {f:Bool→Bool→Bool} {v:Int} {n m N:Nat} {a b:bU} {p q:List Nat→Bool} (ha:HasL v n a p) (hb:HasL v m b q) (h:(order (aU f a b)).length≤N) (hN:N≤4096):eF v N (rV f a b) (fun w=>f (p w) (q w)):=by
 have hv:a.vars=b.vars:=by rw[ha.vars,hb.vars]
 have vD:Val (aU f a b):=jm ha.valid.toVal hb.valid.toVal hv
 have vR:Valid (db (aU f a b)):=r8 vD (Nat.le_trans h hN)
 have e:rV f a b=gJ (db (aU f a b)):=(uE vD).symm
 have hl:(gJ (db (aU f a b))).next.length≤(db (aU f a b)).next.length:=uu vR.toVal
 have hr:(db (aU f a b)).next.length=(order (aU f a b)).length:=by simp[db]
 refine⟨⟨?_,?_,ha.vars,fun w hw=>?_⟩,Gx ha.valid.toVal hb.valid.toVal hv⟩
 ·rw[e];exact mP vR
 ·rw[e];omega
 ·rw[Gw ha.valid.toVal hb.valid.toVal hv (ha.wd.2 hw),ha.gq w hw,hb.gq w hw]
end Go.Lx

namespace Go.Lx
open Go.RowKit
end Go.Lx

namespace Go.Lx
open Go.RowKit
end Go.Lx

namespace Go.Lx
open Go.RowKit
end Go.Lx

namespace Go.Lx
open Go.RowKit
abbrev cC (a g:bU) (j k:DK):List Value:=[.int .i64 a.vars,.int .i64 a.start,.slice j.nb a.next.length j.nc,.slice j.fb a.ax.length j.fc,.int .i64 g.vars,.int .i64 g.start,.slice k.nb g.next.length k.nc,.slice k.fb g.ax.length k.fc]
abbrev bC (e:Value) (a g:bU) (j k:DK):List Value:=e::cC a g j k
end Go.Lx
namespace Go.Lx
end Go.Lx

namespace Go.Lx
open Go.RowKit
end Go.Lx

namespace Go.Lx
open Go.RowKit
section
variable {v:Int} {px py p q p1 q1 p2 q2 p3 q3:List Nat→Bool}
end
section
variable {z x a b c d:bU} {px p q p2 q2:List Nat→Bool}
end
section
variable {v:Int} {px py p q p1 q1 p2 q2 p3 q3:List Nat→Bool}
theorem fi {P Q:List Nat→Prop} (h: ∀w,P w↔Q w):(∀w,nT v w→P w)↔ ∀w,nT v w→Q w:=forall_congr' fun w=>forall_congr' fun _=>h w
theorem fc {P Q R:List Nat→Prop} (h: ∀w,P w↔Q w∧R w):(∀w,nT v w→P w)↔(∀w,nT v w→Q w)∧ ∀w,nT v w→R w:=
 ⟨fun a=>⟨fun w hw=>((h w).1 (a w hw)).1,fun w hw=>((h w).1 (a w hw)).2⟩,fun a w hw=>(h w).2 ⟨a.1 w hw,a.2 w hw⟩⟩
end
end Go.Lx

namespace Go.Lx
open Go.RowKit
end Go.Lx
namespace Go.Lx
end Go.Lx

namespace Go.Lx
open Go.RowKit Go.ChangeShapes Go.WideShapes Go.Deep
section
variable {H:Type} {enc:TypeId×Value→H} {P:Program}
end
end Go.Lx

namespace Go.Lx
open Go.RowKit Go.Sort
theorem pR {α:Type} [Inhabited α] (enc:α→Value) (off:Nat) (d:Array α) (c:Array Value):(putCells enc off d c).size=c.size:=by simp[putCells]
theorem tF {α:Type} [Inhabited α] (enc:α→Value) (off:Nat) (d:Array α) (c:Array Value) {i:Nat} (hi:i<d.size) (hc:off+i<c.size):(putCells enc off d c)[off+i]? =some (enc d[i]!):=by
 simp only[putCells,Array.getElem?_mapIdx,Array.getElem?_eq_getElem hc,Option.map_some]
 rw[if_pos ⟨by omega,by omega⟩,show off+i-off=i by omega]
theorem Inv.Jq {base w:World} {O:List Item} {i jH off cap:Nat} {T:TypeId} {zs ys:List Int} (hI:Inv base O w) (hO:O[i]? =some (am (some ⟨jH,off,none⟩) cap T 1 (ints zs))) (hl:ys.length=zs.length) (n:Nat) (os:Array Obj):
  Inv base (O.set i (am (some ⟨jH,off,none⟩) cap T 1 (ints ys))) (Go.Sort.grow (putRow (Value.int .i64) (Sort.ahead w n) jH off ys.toArray) os):=by
 obtain⟨_,full,hb,l_,QQ,Gv⟩:=hI.row hO
 have eV:jH<w.heap.size:=(Array.getElem?_eq_some_iff.1 hb).1
 have vP:(Go.Sort.grow (putRow (Value.int .i64) (Sort.ahead w n) jH off ys.toArray) os).heap=(w.heap.modify jH (onCells (putCells (Value.int .i64) off ys.toArray)))++os:=rfl
 refine hI.p6 hO F F F ?_ (fun b Vp hk=>?_) ⟨F,putCells (Value.int .i64) off ys.toArray full,?_,?_,?_,fun j hj=>?_⟩ (fun k hk=>.inl hk) (by simp[am])
 ·rw[vP];simp
 ·rw[vP,Array.getElem?_append_left (by simpa using Vp),Array.getElem?_modify,if_neg (fun e=>hk (by simp[am,e]))]
 ·rw[vP,Array.getElem?_append_left (by simpa using eV),Array.getElem?_modify,if_pos F,hb];rfl
 ·simp only[List.length_map]at l_⊢;omega
 ·rw[pR];exact QQ
 ·have qj:j<ys.length:=by simpa using hj
  have Xf:zs.length≤cap*1:=by simpa using l_
  have Xg:off+cap*1≤full.size:=QQ
  show(putCells (Value.int .i64) off ys.toArray full)[off+j]? =_
  rw[tF _ _ _ _ (by simpa using qj) (by omega)]
  simp[qj]
theorem xW {base w:World} {O:List Item} {i jH off cap:Nat} {T:TypeId} {zs:List Int} (hI:Inv base O w) (hO:O[i]? =some (am (some ⟨jH,off,none⟩) cap T 1 (ints zs))):Holds (Value.int .i64) w jH off zs.toArray∧jH<w.heap.size:=by
 obtain⟨_,full,hb,l_,QQ,Gv⟩:=hI.row hO
 refine⟨fun j hj=>?_,(Array.getElem?_eq_some_iff.1 hb).1⟩
 have qj:j<zs.length:=by simpa using hj
 have h9:=Gv j (by simpa using qj)
 constructor
 ·simp only[World.cell?,hb]
  simp at h9
  simp[h9,qj]
 ·simp[World.frozen?,hb]
end Go.Lx

namespace Go.Lx
open Go.RowKit Go.Sort
theorem Ma {l m:List Int} (hl:l.Pairwise (· < ·)) (hm:m.Pairwise (· < ·)) (h: ∀y,y∈l↔y∈m):l=m:=
 ((List.perm_ext_iff_of_nodup (hl.imp fun h=>by omega) (hm.imp fun h=>by omega)).2 h).eq_of_pairwise (le:=fun x y:Int=>x<y) (fun a b _ _ h1 h2=>by omega) hl hm
theorem vO {l m:List Nat} (hl:l.Pairwise (· < ·)) (hm:m.Pairwise (· < ·)) (h: ∀y,y∈l↔y∈m):l=m:=
 ((List.perm_ext_iff_of_nodup (hl.imp fun h=>by omega) (hm.imp fun h=>by omega)).2 h).eq_of_pairwise (le:=fun x y:Nat=>x<y) (fun a b _ _ h1 h2=>by omega) hl hm
theorem Bg (zs:List Int) (y:Int):y∈Lib.compact zs↔y∈zs:=by
 unfold Lib.compact Lib.compactUpTo
 simp only[List.mem_map,List.mem_filter,List.mem_range]
 constructor
 ·rintro⟨j,⟨hj,_⟩,rfl⟩
  rw[getElem!_pos zs.toArray j (by simpa using hj)];simp
 ·intro hy
  have hex: ∃j,j<zs.length∧zs.toArray[j]! =y:=by
   obtain⟨j,hj,e⟩:=List.getElem_of_mem hy
   exact⟨j,hj,by rw[getElem!_pos zs.toArray j (by simpa using hj)];simpa using e⟩
  suffices main: ∀j,j<zs.length→zs.toArray[j]! =y→ ∃i,(i<zs.length∧Lib.keeps zs.toArray i=true)∧zs.toArray[i]! =y by
   obtain⟨j,hj,e⟩:=hex;exact main j hj e
  intro j
  induction j with
  |zero=>exact fun hj e=>⟨0,⟨hj,by simp[Lib.keeps]⟩,e⟩
  |succ j ih=>
   intro hj e
   by_cases h:zs.toArray[j]! =y
   ·exact ih (by omega) h
   ·exact⟨j+1,⟨hj,by simp only[Lib.keeps,decide_eq_true_eq];exact .inr (by rw[e];exact fun h'=>h h'.symm)⟩,e⟩
theorem Bh {zs:List Int} (h:zs.Pairwise (· ≤ ·)):(Lib.compact zs).Pairwise (· < ·):=by
 have Ds: ∀i j,i≤j→j<zs.length→zs.toArray[i]! ≤zs.toArray[j]! :=fun i j Xe hj=>by
  rw[getElem!_pos zs.toArray i (by simp;omega),getElem!_pos zs.toArray j (by simpa using hj)]
  rcases Nat.lt_or_ge i j with h1|h1
  ·simpa using List.pairwise_iff_getElem.1 h i j (by omega) hj h1
  ·have:i=j:=by omega
   subst this;exact Int.le_refl _
 unfold Lib.compact Lib.compactUpTo
 rw[List.pairwise_map]
 refine List.Pairwise.imp_of_mem ?_ (List.Pairwise.filter _ (List.pairwise_lt_range (n:=zs.length)))
 intro i j hi hj Xe
 simp only[List.mem_filter,List.mem_range]at hi hj
 have h2:=hj.2
 simp only[Lib.keeps,decide_eq_true_eq]at h2
 have h1:=Ds i (j-1) (by omega) (by omega)
 have h3:=Ds (j-1) j (by omega) hj.1
 omega
def FZ (n:Nat) (p:Nat→Bool):List Nat:=(List.range n).filter p
theorem oZ {n:Nat} {p:Nat→Bool} {y:Nat}:y∈FZ n p↔y<n∧p y=true:=by simp[FZ]
theorem mC (n:Nat) (p:Nat→Bool):(FZ n p).Pairwise (· < ·):=List.Pairwise.filter _ List.pairwise_lt_range
theorem Ic (n:Nat) (p:Nat→Bool):(FZ n p).length≤n:=Nat.le_trans (List.length_filter_le _ _) (by simp)
def eA (d:bU) (l:List Nat) (x:Nat):List Nat:=FZ d.next.length fun y=>l.any fun s=>dY d s x==y
theorem pz {d:bU} (hv:Val d) {l:List Nat} (hl: ∀s∈l,s<d.next.length) {x y:Nat} (hx:x<2^d.vars.toNat):y∈eA d l x↔ ∃s∈l,dY d s x=y:=by
 unfold eA;rw[oZ]
 simp only[List.any_eq_true,beq_iff_eq]
 constructor
 ·exact fun h=>h.2
 ·rintro⟨s,hs,rfl⟩
  exact⟨(hv.fF (hl s hs) hx).1,s,hs,F⟩
def yw (n:Nat) (l:List Nat) (s:Nat):List Nat:=FZ n fun y=>l.contains y||y==s
theorem uk {n:Nat} {l:List Nat} (hl: ∀s∈l,s<n) {s y:Nat} (hs:s<n):y∈yw n l s↔y∈l∨y=s:=by
 unfold yw;rw[oZ]
 simp only[Bool.or_eq_true,List.contains_eq_mem,decide_eq_true_eq,beq_iff_eq]
 exact⟨fun h=>h.2,fun h=>⟨h.elim (hl y) (fun e=>e▸hs),h⟩⟩
theorem Lw {n:Nat} {l:List Nat} (ha:l.Pairwise (· < ·)) (hl: ∀s∈l,s<n) {s:Nat} (hs:s∈l):yw n l s=l:=
 vO (mC _ _) ha fun y=>by rw[uk hl (hl s hs)];exact⟨fun h=>h.elim id (fun e=>e▸hs),.inl⟩
abbrev oG (l:List Int):List Int:=l.mergeSort fun x y=>decide (x≤y)
theorem wH (l:List Int):(oG l).Pairwise fun x y=>x≤y:=by
 have:=List.pairwise_mergeSort (le:=fun x y:Int=>decide (x≤y)) (fun a b c h1 h2=>by simp at*;omega) (fun a b=>by simp;omega) l
 exact this.imp fun h=>by simpa using h
theorem FE {d:bU} (hv:Val d) {l:List Nat} (hl: ∀s∈l,s<d.next.length) {x:Nat} (hx:x<2^d.vars.toNat):
  Lib.compact (oG (l.map fun s=>((dY d s x:Nat):Int)))=(eA d l x).map fun y:Nat=>(y:Int):=by
 refine Ma (Bh (wH _)) (List.pairwise_map.2 ((mC _ _).imp fun h=>by omega)) fun y=>?_
 rw[Bg,List.mem_mergeSort,List.mem_map,List.mem_map]
 constructor
 ·rintro⟨s,hs,rfl⟩;exact⟨_,(pz hv hl hx).2 ⟨s,hs,F⟩,F⟩
 ·rintro⟨y,hy,rfl⟩
  obtain⟨s,hs,rfl⟩:=(pz hv hl hx).1 hy
  exact⟨s,hs,F⟩
theorem Eu: ∀ {l:List Nat} {s:Nat},l.Pairwise (· < ·)→s∉l→(l.take (l.countP (· <s))++s::l.drop (l.countP (· <s))).Pairwise (· < ·)
 | [],s,_,_=>by simp
 |a::l,s,h,hs=>by
  rw[List.pairwise_cons]at h
  simp only[List.mem_cons,not_or]at hs
  by_cases c:a<s
  ·rw[List.countP_cons,if_pos (by simpa using c)]
   simp only[List.take_succ_cons,List.drop_succ_cons,List.cons_append,List.pairwise_cons]
   refine⟨fun y hy=>?_,Eu h.2 hs.2⟩
   rcases List.mem_append.1 hy with hy|hy
   ·exact h.1 y (List.mem_of_mem_take hy)
   ·rcases List.mem_cons.1 hy with rfl|hy
    ·exact c
    ·exact h.1 y (List.mem_of_mem_drop hy)
  ·have h0:(a::l).countP (· <s)=0:=by
    rw[List.countP_eq_zero]
    intro y hy
    rcases List.mem_cons.1 hy with rfl|hy
    ·simpa using c
    ·have:=h.1 y hy;simp;omega
   rw[h0]
   simp only[List.take_zero,List.nil_append,List.drop_zero,List.pairwise_cons]
   exact⟨fun y hy=>by
    rcases List.mem_cons.1 hy with rfl|hy
    ·omega
    ·have:=h.1 y hy;omega,h.1,h.2⟩
theorem DV {n:Nat} {l:List Nat} (ha:l.Pairwise (· < ·)) (hl: ∀s∈l,s<n) {s:Nat} (hs:s<n) (hn:s∉l):l.take (l.countP (· <s))++s::l.drop (l.countP (· <s))=yw n l s:=
 vO (Eu ha hn) (mC _ _) fun y=>by
  rw[uk hl hs,List.mem_append,List.mem_cons]
  have h9:y∈l↔y∈l.take (l.countP (· <s))∨y∈l.drop (l.countP (· <s)):=by rw[←List.mem_append,List.take_append_drop]
  rw[h9]
  constructor
  ·rintro(h|h|h)
   ·exact .inl (.inl h)
   ·exact .inr h
   ·exact .inl (.inr h)
  ·rintro((h|h)|h)
   ·exact .inl h
   ·exact .inr (.inr h)
   ·exact .inr (.inl h)
theorem Inv.drewN {base w:World} {O:List Item} (h:Inv base O w) (q:Nat):Inv base O (w.drewN q):=h.same F F F F
theorem eS (l:List Nat):ints (l.map fun y:Nat=>(y:Int))=aX l:=by simp
theorem Ev {w:World} {b:Nat} {o:Obj} (h:w.heap[b]? =some o):im w b o=w:=by
 have eV:=(Array.getElem?_eq_some_iff.1 h).1
 have e:w.heap.setIfInBounds b o=w.heap:=by
  apply Array.ext_getElem?
  intro i
  rw[Array.getElem?_setIfInBounds]
  by_cases c:b=i
  ·subst c;rw[if_pos F,if_pos eV,h]
  ·rw[if_neg c]
 show({w with heap:=_}:World)=w
 rw[e]
theorem j6 {b:Nat} {T:TypeId}: ∀(vs:List Value) (o:Nat) (cs:List Value) (w:World),w.heap[b]? =some (.cells cs.toArray T (0,0))→w.setCells b o vs=im w b (.cells (dK cs o vs).toArray T (0,0))
 | [],o,cs,w,h=>by
  rw[World.setCells,dK,Ev h]
 |v::vs,o,cs,w,h=>by
  have eV:=(Array.getElem?_eq_some_iff.1 h).1
  rw[World.setCells,dK,qQ h,j6 vs (o+1) (cs.set o v) (im w b _) (jQ eV),wZ]
theorem Inv.setCells {base w:World} {O:List Item} {i b o c p:Nat} {T:TypeId} {cs x5 vs:List Value} (hI:Inv base O w) (hO:O[i]? =some (am (some ⟨b,o,none⟩) c T 1 cs)) (hp:p+vs.length≤c) (hl:x5.length≤c)
  (hc: ∀j (h:j<x5.length),x5[j]? =if p≤j∧j<p+vs.length then vs[j-p]? else cs[j]?):Inv base (O.set i (am (some ⟨b,o,none⟩) c T 1 x5)) (w.setCells b (o+p) vs):=by
 obtain⟨_,full,hb,h1,h2,h3⟩:=hI.row hO
 obtain⟨fl,rfl⟩: ∃fl:List Value,full=fl.toArray:=⟨full.toList,by simp⟩
 simp only[Nat.mul_one,List.size_toArray]at h1 h2
 rw[j6 vs (o+p) fl w hb]
 refine hI.setRow hO (by omega) (by simp[f_];omega) fun j hj=>?_
 have hg:=kW vs fl (o+p) (o+j) (by omega)
 simp only[List.getElem?_toArray]
 rw[hg]
 have h9:=hc j hj
 by_cases Cb:p≤j∧j<p+vs.length
 ·rw[if_pos (by omega)]
  rw[if_pos Cb]at h9
  rw[show o+j-(o+p)=j-p by omega,←h9,List.getElem?_eq_getElem hj]
 ·rw[if_neg (by omega)]
  rw[if_neg Cb]at h9
  have Zo:j<cs.length:=by
   rcases Nat.lt_or_ge j cs.length with h|h
   ·exact h
   ·rw[List.getElem?_eq_none h,List.getElem?_eq_getElem hj]at h9;cases h9
  have:=h3 j Zo
  simp only[List.getElem?_toArray]at this
  rw[this,←List.getElem?_eq_getElem Zo,←h9,List.getElem?_eq_getElem hj]
theorem Inv.F0 {base w:World} {O:List Item} {i jH off cap:Nat} {T:TypeId} {zs ys QO:List Int} (hI:Inv base O w) (hO:O[i]? =some (am (some ⟨jH,off,none⟩) cap T 1 (ints zs))) (hl:(ys++QO).length=zs.length) (n:Nat):
  Inv base (O.set i (am (some ⟨jH,off,none⟩) cap T 1 (ints ys))) (putRow (Value.int .i64) (Sort.ahead w n) jH off (ys++QO).toArray):=by
 have h:=hI.Jq (ys:=ys++QO) hO hl n #[]
 have e:Go.Sort.grow (putRow (Value.int .i64) (Sort.ahead w n) jH off (ys++QO).toArray) #[]=putRow (Value.int .i64) (Sort.ahead w n) jH off (ys++QO).toArray:=by
  simp[Go.Sort.grow];rfl
 rw[e]at h
 have eV:i<O.length:=(List.getElem?_eq_some_iff.1 hO).1
 have h2:(O.set i (am (some ⟨jH,off,none⟩) cap T 1 (ints (ys++QO))))[i]? =some (am (some ⟨jH,off,none⟩) cap T 1 (ints (ys++QO))):=by simp[eV]
 obtain⟨_,full,hb,h3,h4,h5⟩:=h.row h2
 have h6:=h.setRow h2 (x5:=ints ys) (full:=full) (by simp at h3⊢;omega) h4 fun j hj=>by
  have qj:j<ys.length:=by simpa using hj
  have:=h5 j (by simp;omega)
  rw[this];simp[List.getElem_append_left,qj]
 rw[List.set_set]at h6
 rwa[Ev hb]at h6
theorem rD (xs:List Int) (x:Int) {i:Nat} (hi:i≤xs.length) (j:Nat):(ints (xs.take i++x::xs.drop i))[j]? =if j<i then(ints xs)[j]? else if j=i then some (.int .i64 x)else(ints xs)[j-1]? :=by
 rw[List.getElem?_map]
 by_cases c1:j<i
 ·rw[if_pos c1,List.getElem?_append_left (by simp;omega),List.getElem?_take,if_pos c1,List.getElem?_map]
 ·rw[if_neg c1,List.getElem?_append_right (by simp;omega)]
  simp only[List.length_take,Nat.min_eq_left hi]
  by_cases c2:j=i
  ·subst c2;rw[if_pos F,Nat.sub_self];rfl
  ·obtain⟨k,rfl⟩: ∃k,j=i+(k+1):=⟨j-i-1,by omega⟩
   rw[if_neg c2,show i+(k+1)-i=k+1 by omega,List.getElem?_cons_succ,List.getElem?_drop,List.getElem?_map,show i+(k+1)-1=i+k by omega]
end Go.Lx

namespace Go.Lx
open Go.RowKit
abbrev Key:=List UInt8
theorem sI {α:Type} [DecidableEq α]: ∀ {l m:List α},l.Nodup→(∀x∈l,x∈m)→l.length≤m.length
 | [],_,_,_=>Nat.zero_le _
 |a::l,m,hn,h=>by
  rw[List.nodup_cons]at hn
  have ha:=h a (by simp)
  have:=sI (l:=l) (m:=m.erase a) hn.2 fun x hx=>(List.mem_erase_of_ne (fun e:x=a=>hn.1 (by rw[←e];exact hx))).2 (h x (by simp[hx]))
  rw[List.length_erase_of_mem ha]at this
  have:=List.length_pos_of_mem ha
  simp only[List.length_cons];omega
def Ex (tr:Key→Nat→Key) (L:Nat) (start:Key) (C:List Key):Prop:=start∈C∧ ∀k∈C,∀x,x<L→tr k x∈C
def vi (tr:Key→Nat→Key) (L:Nat) (start:Key) (B:Nat):Prop:= ∃C,Ex tr L start C∧C.length≤B
theorem vi.mono {tr:Key→Nat→Key} {L:Nat} {start:Key} {B B':Nat} (h:vi tr L start B) (hB:B≤B'):vi tr L start B':=by
 obtain⟨C,h1,h2⟩:=h;exact⟨C,h1,by omega⟩
structure xu (tr:Key→Nat→Key) (L:Nat) (start:Key) (ks:List Key):Prop where
 nodup:ks.Nodup
 st:ks[0]? =some start
 sub: ∀C,Ex tr L start C→ ∀k∈ks,k∈C
theorem xu.one (tr:Key→Nat→Key) (L:Nat) (start:Key):xu tr L start [start]:=⟨by simp,F,fun C h k hk=>by simp at hk;subst hk;exact h.1⟩
theorem xu.pos {tr:Key→Nat→Key} {L:Nat} {start:Key} {ks:List Key} (h:xu tr L start ks):0<ks.length:=(List.getElem?_eq_some_iff.1 h.st).1
theorem xu.add {tr:Key→Nat→Key} {L:Nat} {start:Key} {ks:List Key} (h:xu tr L start ks) {k:Key} (hk:k∈ks) {x:Nat} (hx:x<L):xu tr L start (add ks (tr k x)):=
 ⟨kT h.nodup,by obtain⟨t,ht⟩:=gk ks (tr k x);rw[←ht,List.getElem?_append_left h.pos];exact h.st,fun C hC y hy=>(pA.1 hy).elim (h.sub C hC y) fun e=>e▸hC.2 k (h.sub C hC k hk) x hx⟩
theorem xu.Po {tr:Key→Nat→Key} {L:Nat} {start:Key} {ks:List Key} (h:xu tr L start ks) {B:Nat} (hB:B<ks.length): ¬vi tr L start B:=fun⟨C,hC,hl⟩=>by
 have:=sI h.nodup (fun k hk=>h.sub C hC k hk)
 omega
theorem yx {ks:List Key} {k:Key} (h:k∉ks):add ks k=ks++[k]:=by unfold add;rw[if_neg h]
theorem yy {ks:List Key} {k:Key} (h:k∈ks):add ks k=ks:=by unfold add;rw[if_pos h]
theorem vm {tr:Key→Nat→Key} {L:Nat} {start:Key} {ks:List Key} {rs:List (List Int)} (h:xu tr L start ks) (hE:ni tr L ks ks.length rs) {B:Nat} (hB:ks.length≤B):vi tr L start B:=
 ⟨ks,⟨List.mem_of_getElem? h.st,fun k hk x hx=>by
  obtain⟨i,hi,rfl⟩:=List.getElem_of_mem hk
  have:=hE.mem i hi x hx
  rwa[show ks.getD i []=ks[i] by simp[hi]]at this⟩,hB⟩
def FF (v:Nat) (rs:List (List Int)) (fs:List Bool):bU:=⟨(v:Int),0,rs,fs⟩
section
variable {tr:Key→Nat→Key} {fin:Key→Bool} {v:Nat} {start:Key} {ks:List Key} {rs:List (List Int)}
theorem C7 (hv:v≤6) (hp:0<ks.length) (hE:ni tr (2^v) ks ks.length rs) (hn:ks.length≤4096):Valid (FF v rs (ks.map fin)):=by
 refine⟨⟨by simp[FF],by simp[FF];omega,by show 0<rs.length;rw[hE.len];exact hp,by show(ks.map fin).length=rs.length;rw[hE.len,List.length_map],Int.le_refl _,by show(0:Int)<(rs.length:Int);rw[hE.len];omega,fun r hr=>?_,fun r hr x hx=>?_⟩,by show rs.length≤4096;rw[hE.len];exact hn⟩
 ·obtain⟨i,hi,rfl⟩:=List.getElem_of_mem (show r∈rs from hr)
  have Fe:i<ks.length:=by have:i<rs.length:=hi;rw[hE.len]at this;exact this
  have h9:=hE.row i Fe
  rw[List.getElem?_eq_getElem hi]at h9
  rw[Option.some.inj h9];simp[iu,FF]
 ·obtain⟨i,hi,rfl⟩:=List.getElem_of_mem (show r∈rs from hr)
  have Fe:i<ks.length:=by have:i<rs.length:=hi;rw[hE.len]at this;exact this
  have h9:=hE.row i Fe
  rw[List.getElem?_eq_getElem hi]at h9
  rw[Option.some.inj h9]at hx
  simp only[iu,List.mem_map,List.mem_range]at hx
  obtain⟨y,hy,rfl⟩:=hx
  have:=pS (hE.mem i Fe y hy)
  exact⟨by omega,by show _<(rs.length:Int);rw[hE.len];omega⟩
theorem Ey (hE:ni tr (2^v) ks ks.length rs): ∀(w:List Nat) (k:Key),nT (v:Int) w→k∈ks→runN (FF v rs (ks.map fin)) (ix k ks) w=ix (w.foldl tr k) ks∧w.foldl tr k∈ks
 | [],k,_,hk=>⟨F,hk⟩
 |x::w,k,hw,hk=>by
  have hx:x<2^v:=by have:=hw x (by simp);simpa using this
  have hi:=pS hk
  have hg:ks.getD (ix k ks) []=k:=by rw[List.getD_eq_getElem?_getD,nr hk];rfl
  have hm:tr k x∈ks:=by have:=hE.mem _ hi x hx;rwa[hg]at this
  have ht:dY (FF v rs (ks.map fin)) (ix k ks) x=ix (tr k x) ks:=by
   have h9:=hE.row _ hi
   unfold dY FF
   simp only[List.getD_eq_getElem?_getD,h9,Option.getD_some,iu,List.getElem?_map,List.getElem?_range hx,Option.map_some]
   rw[←List.getD_eq_getElem?_getD,hg];simp
  have:=Ey hE w (tr k x) (fun y hy=>hw y (by simp[hy])) hm
  unfold runN at this⊢
  rw[List.foldl_cons,ht,List.foldl_cons]
  exact this
theorem Bl (hv:v≤6) (wq:ks[0]? =some start) (hE:ni tr (2^v) ks ks.length rs) (hn:ks.length≤4096):HasL (v:Int) ks.length (FF v rs (ks.map fin)) (fun w=>fin (w.foldl tr start)):=by
 refine⟨C7 hv (List.getElem?_eq_some_iff.1 wq).1 hE hn,by show rs.length≤_;rw[hE.len];exact Nat.le_refl _,F,fun w hw=>?_⟩
 have hs:start∈ks:=List.mem_of_getElem? wq
 have h0:ix start ks=0:=by
  cases ks with
  |nil=>simp at hs
  |cons k l=>have:=wq;simp at this;subst this;simp[ix]
 obtain⟨h1,h2⟩:=Ey (fin:=fin) hE w start hw hs
 rw[h0]at h1
 unfold gq cF
 show List.getD (ks.map fin) (runN (FF v rs (ks.map fin)) 0 w) false=_
 rw[h1,List.getD_eq_getElem?_getD,List.getElem?_map,nr h2];rfl
theorem yA (hv:v≤6) (h:xu tr (2^v) start ks) (hE:ni tr (2^v) ks ks.length rs) (hn:ks.length≤4096):HasL (v:Int) ks.length (FF v rs (ks.map fin)) (fun w=>fin (w.foldl tr start)):=Bl hv h.st hE hn
theorem Eh (hv:v≤6) {B:Nat} (hB:B≤4096) (h:vi tr (2^v) start B): ∃M,eF (v:Int) B M (fun w=>fin (w.foldl tr start)):=by
 obtain⟨C,⟨h1,h2⟩,h3⟩:=h
 obtain⟨D,hD⟩: ∃D,D=start::C.filter (fun k=>decide (k≠start)):=⟨_,F⟩
 have hm: ∀k,k∈D↔k∈C:=fun k=>by
  rw[hD]
  by_cases e:k=start
  ·subst e;simp[h1]
  ·simp[e]
 have hl:D.length≤B:=by
  have hf:(C.filter (fun k=>decide (k≠start))).length<C.length:=by
   have:=List.length_filter_lt_length_iff_exists (p:=fun k=>decide (k≠start)) (l:=C)
   exact this.2 ⟨start,h1,by simp⟩
  rw[hD,List.length_cons];omega
 have hE:ni tr (2^v) D D.length ((List.range D.length).map (iu tr (2^v) D)):=by
  refine⟨by simp,Nat.le_refl _,fun i hi=>by rw[List.getElem?_map,List.getElem?_range hi];rfl,fun i hi y hy=>?_⟩
  rw[hm]
  refine h2 _ ?_ y hy
  rw[←hm,List.getD_eq_getElem?_getD,List.getElem?_eq_getElem hi]
  exact List.getElem_mem hi
 have h4:=Bl (fin:=fin) hv (show D[0]? =some start by rw[hD];rfl) hE (by omega)
 have h5:=HasL.qL h4
 exact⟨_,⟨h5.valid,Nat.le_trans h5.len hl,h5.vars,h5.gq⟩,h5.min⟩
end
structure SR where
 a:Value
 b:Value
 ik:List Item
abbrev c1 (r:SR):List Value:=[r.a]
abbrev c2 (r:SR):List Value:=[r.a,r.b]
def cO (f:SR→List Value) (qs:List SR):List Value:=qs.flatMap f
def fa (qs:List SR):List Item:=qs.flatMap SR.ik
theorem oH (f:SR→List Value) (qs:List SR) (r:SR):cO f (qs++[r])=cO f qs++f r:=by simp[cO]
theorem su (qs:List SR) (r:SR):fa (qs++[r])=fa qs++r.ik:=by simp[fa]
theorem gj {f:SR→List Value} {n:Nat} (h: ∀r,(f r).length=n): ∀(qs:List SR),(cO f qs).length=qs.length*n
 | []=>by simp[cO]
 |r::qs=>by
  have:=gj h qs
  have h0:=h r
  simp only[cO,List.flatMap_cons,List.length_append,List.length_cons]at this⊢
  rw[this,h0,Nat.succ_mul];omega
theorem qz {f:SR→List Value} {n:Nat} (h: ∀r,(f r).length=n): ∀ {qs:List SR} {i j:Nat} (hi:i<qs.length),j<n→(cO f qs)[i*n+j]? =(f qs[i])[j]?
 |r::qs,0,j,_,hj=>by
  have h0:=h r
  simp only[cO,List.flatMap_cons,Nat.zero_mul,Nat.zero_add,List.getElem_cons_zero]
  rw[List.getElem?_append_left (by omega)]
 |r::qs,i+1,j,hi,hj=>by
  have h0:=h r
  have ih:=qz h (qs:=qs) (i:=i) (j:=j) (by simpa using hi) hj
  simp only[cO,List.flatMap_cons,List.getElem_cons_succ]at ih⊢
  rw[List.getElem?_append_right (by rw[h0,Nat.succ_mul];omega),h0,show(i+1)*n+j-n=i*n+j by rw[Nat.succ_mul];omega]
  exact ih
theorem mx {qs:List SR} {i:Nat} (hi:i<qs.length) {it:Item} (h:it∈qs[i].ik):it∈fa qs:=List.mem_flatMap.2 ⟨_,List.getElem_mem hi,h⟩
theorem DY {qs:List SR} {i:Nat} (hi:i<qs.length): ∀j (h:j< [qs[i].a,qs[i].b].length),(cO c2 qs)[i*2+j]? =some [qs[i].a,qs[i].b][j]:=fun j hj=>by
 rw[qz (f:=c2) (fun _=>rfl) hi (by simpa using hj)];exact List.getElem?_eq_getElem hj
theorem Nt {qs:List SR} {i:Nat} (hi:i<qs.length):(cO c1 qs)[i]? =some qs[i].a:=by
 have:=qz (f:=c1) (n:=1) (fun _=>rfl) (j:=0) hi (by omega)
 simpa using this
def DW (Rp:Key→SR→Prop) (ks:List Key) (qs:List SR):Prop:=qs.length=ks.length∧ ∀i (h:i<qs.length),Rp (ks.getD i []) qs[i]
theorem DW.one {Rp:Key→SR→Prop} {k:Key} {r:SR} (h:Rp k r):DW Rp [k] [r]:=⟨F,fun i hi=>by simp at hi;subst hi;exact h⟩
theorem DW.snoc {Rp:Key→SR→Prop} {ks:List Key} {qs:List SR} {k:Key} {r:SR} (h:DW Rp ks qs) (hr:Rp k r):DW Rp (ks++[k]) (qs++[r]):=by
 refine⟨by simp[h.1],fun i hi=>?_⟩
 rcases Nat.lt_or_ge i qs.length with c|c
 ·have:=h.2 i c
  rw[List.getElem_append_left c,List.getD_eq_getElem?_getD,List.getElem?_append_left (by rw[←h.1];exact c),←List.getD_eq_getElem?_getD]
  exact this
 ·simp only[List.length_append,List.length_cons,List.length_nil]at hi
  have e:i=qs.length:=by omega
  subst e
  rw[List.getElem_append_right (Nat.le_refl _),List.getD_eq_getElem?_getD,List.getElem?_append_right (by rw[h.1];exact Nat.le_refl _)]
  simpa[h.1]using hr
theorem qn (A B Y Z X:List Item) (h:Sub A B):Sub (A++(Y++(Z++X))) (B++(X++(Y++Z))):=by
 obtain⟨l,h1,h2⟩:=h
 refine⟨l++(X++(Y++Z)),h1.append ?_,h2.append (List.Sublist.refl _)⟩
 rw[←List.append_assoc Y Z X]
 exact List.perm_append_comm
theorem oK (A B Y Z:List Item) (h:Sub A B):Sub (A++Y) (B++(Y++Z)):=by
 obtain⟨l,h1,h2⟩:=h
 exact⟨l++Y,h1.append_right Y,h2.append (List.sublist_append_left Y Z)⟩
theorem lN (A B X Y:List Item) (c:Item) (h:Sub (A++[c]) B):Sub (A++((X++[c])++Y)) (B++(X++Y)):=by
 obtain⟨l,h1,h2⟩:=h
 refine⟨l++(X++Y),?_,h2.append (List.Sublist.refl _)⟩
 refine List.Perm.trans ?_ (h1.append_right (X++Y))
 rw[List.append_assoc X,List.append_assoc A]
 exact List.Perm.append_left A ((List.perm_append_comm_assoc X [c] Y))
theorem dO (A B X Y:List Item) (h:Sub A B):Sub (A++Y) (B++(X++Y)):=by
 obtain⟨l,h1,h2⟩:=h
 exact⟨l++Y,h1.append_right Y,h2.append (List.sublist_append_right X Y)⟩
end Go.Lx

namespace Go.Lx
open Go.RowKit
def kI (n:Int):Prop:=n= -1∨(0≤n∧n<1000000000000)
def iQ (n:Int):List UInt8:=if n= -1 then[45,49]else Lib.decDigits n.toNat
def gi (l:List Int):List UInt8:=l.flatMap fun n=>iQ n++[32]
theorem Ek:gi []=[]:=rfl
theorem mA (n:Int) (l:List Int):gi (n::l)=iQ n++32::gi l:=by simp[gi]
theorem qo (l m:List Int):gi (l++m)=gi l++gi m:=by simp[gi]
theorem Az {l:List Int} {i:Nat} (h:i<l.length):gi (l.take (i+1))=gi (l.take i)++iQ l[i]++[32]:=by
 rw[List.take_succ_eq_append_getElem h,qo,mA];simp[gi]
theorem oE {n:Int} (h:kI n):(iQ n).length≤12:=by
 unfold iQ
 split
 ·decide
 ·rcases h with h|⟨h0,h1⟩
  ·contradiction
  ·exact qY 11 _ (by omega)
theorem nh: ∀ {l:List Int},(∀n∈l,kI n)→(gi l).length≤13*l.length
 | [],_=>by simp[gi]
 |n::l,h=>by
  have h1:=oE (h n (by simp));have h2:=nh (l:=l) fun x hx=>h x (by simp[hx])
  rw[mA];simp only[List.length_append,List.length_cons];omega
theorem pv (n:Int): ∀b∈iQ n,b.toNat=45∨(48≤b.toNat∧b.toNat<58):=by
 unfold iQ
 split
 ·intro b hb;simp at hb;rcases hb with rfl|rfl<;>decide
 ·exact fun b hb=>.inr (pf _ b hb)
theorem Jl {a b:Int} (ha:kI a) (hb:kI b) (h:iQ a=iQ b):a=b:=by
 unfold iQ at h
 by_cases h1:a= -1<;>by_cases h2:b= -1
 ·rw[h1,h2]
 ·rw[if_pos h1,if_neg h2]at h
  have:=pf b.toNat 45 (h▸by simp);simp at this
 ·rw[if_neg h1,if_pos h2]at h
  have:=pf a.toNat 45 (h▸by simp);simp at this
 ·rw[if_neg h1,if_neg h2]at h
  have:=m_ _ _ h
  rcases ha with ha|ha<;>rcases hb with hb|hb<;>first|contradiction|omega
theorem vJ: ∀ {x y p q:List UInt8},(∀b∈x,b≠32)→(∀b∈y,b≠32)→x++32::p=y++32::q→x=y∧p=q
 | [],[],p,q,_,_,h=>⟨F,by simpa using h⟩
 | [],c::y,p,q,_,hy,h=>by simp only[List.nil_append,List.cons_append,List.cons.injEq]at h;exact absurd h.1.symm (hy c (by simp))
 |c::x,[],p,q,hx,_,h=>by simp only[List.nil_append,List.cons_append,List.cons.injEq]at h;exact absurd h.1 (hx c (by simp))
 |c::x,c'::y,p,q,hx,hy,h=>by
  simp only[List.cons_append,List.cons.injEq]at h
  obtain⟨h1,h2⟩:=vJ (fun b hb=>hx b (by simp[hb])) (fun b hb=>hy b (by simp[hb])) h.2
  exact⟨by rw[h.1,h1],h2⟩
theorem El (n:Int): ∀b∈iQ n,b≠32:=fun b hb e=>by subst e;have:=pv n 32 hb;simp at this
theorem yW: ∀ {l m:List Int} {p q:List UInt8},(∀n∈l,kI n)→(∀n∈m,kI n)→(∀b t,p=b::t→b.toNat=124)→(∀b t,q=b::t→b.toNat=124)→gi l++p=gi m++q→l=m∧p=q
 | [],[],p,q,_,_,_,_,h=>⟨F,by simpa[gi]using h⟩
 | [],n::m,p,q,_,_,hp,_,h=>by
  rw[mA,Ek,List.nil_append]at h
  cases hd:iQ n with
  |nil=>rw[hd]at h;have:=hp 32 _ (by simpa using h);simp at this
  |cons c r=>
   rw[hd]at h
   have h1:=hp c _ (by simpa using h);have h2:=pv n c (by simp[hd]);omega
 |n::l,[],p,q,_,_,_,hq,h=>by
  rw[mA,Ek,List.nil_append]at h
  cases hd:iQ n with
  |nil=>rw[hd]at h;have:=hq 32 _ (by simpa using h.symm);simp at this
  |cons c r=>
   rw[hd]at h
   have h1:=hq c _ (by simpa using h.symm);have h2:=pv n c (by simp[hd]);omega
 |n::l,n'::m,p,q,hl,hm,hp,hq,h=>by
  rw[mA,mA,List.append_assoc,List.append_assoc,List.cons_append,List.cons_append]at h
  obtain⟨h1,h2⟩:=vJ (El n) (El n') h
  obtain⟨h3,h4⟩:=yW (fun x hx=>hl x (by simp[hx])) (fun x hx=>hm x (by simp[hx])) hp hq h2
  exact⟨by rw[Jl (hl n (by simp)) (hm n' (by simp)) h1,h3],h4⟩
theorem vK {l m:List Int} (hl: ∀n∈l,kI n) (hm: ∀n∈m,kI n) (h:gi l=gi m):l=m:=
 (yW (p:=[]) (q:=[]) hl hm (by simp) (by simp) (by simpa using h)).1
end Go.Lx

namespace Go.Lx
open Go.RowKit
theorem pw: ∀ {l m:List Nat},l.map (fun y:Nat=>(y:Int))=m.map (fun y:Nat=>(y:Int))→l=m
 | [],[],_=>rfl
 | [],_::_,h=>by simp at h
 |_::_,[],h=>by simp at h
 |x::l,y::m,h=>by
  simp only[List.map_cons,List.cons.injEq]at h
  rw[pw h.2,show x=y by omega]
section
variable {α:Type} [Nonempty α] (G:α→Prop) (kf:α→Key) (nx:α→Nat→α) (fn:α→Bool)
noncomputable def zj (k:Key) (x:Nat):Key:=kf (nx (Classical.epsilon fun a=>G a∧kf a=k) x)
noncomputable def FH (k:Key):Bool:=fn (Classical.epsilon fun a=>G a∧kf a=k)
structure L8 (L:Nat):Prop where
 Kj: ∀a b x,G a→G b→kf a=kf b→x<L→kf (nx a x)=kf (nx b x)
 V2: ∀a b,G a→G b→kf a=kf b→fn a=fn b
 T4: ∀a x,G a→x<L→G (nx a x)
variable {G kf nx fn}
theorem sw {L:Nat} (h:L8 G kf nx fn L) {a:α} (ha:G a) {x:Nat} (hx:x<L):zj G kf nx (kf a) x=kf (nx a x):=by
 have:=Classical.epsilon_spec (p:=fun b=>G b∧kf b=kf a) ⟨a,ha,F⟩
 exact h.Kj _ _ x this.1 ha this.2 hx
theorem yC {L:Nat} (h:L8 G kf nx fn L) {a:α} (ha:G a):FH G kf fn (kf a)=fn a:=by
 have:=Classical.epsilon_spec (p:=fun b=>G b∧kf b=kf a) ⟨a,ha,F⟩
 exact h.V2 _ _ this.1 ha this.2
theorem Em {L:Nat} (h:L8 G kf nx fn L): ∀(u:List Nat) {a:α},G a→(∀x∈u,x<L)→u.foldl (zj G kf nx) (kf a)=kf (u.foldl nx a)∧G (u.foldl nx a)
 | [],a,ha,_=>⟨F,ha⟩
 |x::u,a,ha,hu=>by
  have hx:=hu x (by simp)
  rw[List.foldl_cons,sw h ha hx]
  exact Em h u (h.T4 a x ha hx) fun y hy=>hu y (by simp[hy])
theorem yU {L:Nat} (h:L8 G kf nx fn L) {a:α} (ha:G a) {u:List Nat} (hu: ∀x∈u,x<L):FH G kf fn (u.foldl (zj G kf nx) (kf a))=fn (u.foldl nx a):=by
 obtain⟨h1,h2⟩:=Em h u ha hu
 rw[h1,yC h h2]
end
abbrev Lg:=List Nat→Bool
def ki (p q:Lg):Lg:=fun w=>(List.range (w.length+1)).any fun i=>p (w.take i)&&q (w.drop i)
def vL (p:Lg):Nat→Lg
 |0,w=>w.isEmpty
 |n+1,w=>w.isEmpty||(List.range w.length).any fun i=>p (w.take (i+1))&&vL p n (w.drop (i+1))
def pQ (p:Lg):Lg:=fun w=>vL p w.length w
theorem ju {p q:Lg} {w:List Nat}:ki p q w=true↔ ∃x y,w=x++y∧p x=true∧q y=true:=by
 unfold ki
 simp only[List.any_eq_true,List.mem_range,Bool.and_eq_true]
 constructor
 ·rintro⟨i,_,h1,h2⟩;exact⟨_,_,(List.take_append_drop i w).symm,h1,h2⟩
 ·rintro⟨x,y,rfl,h1,h2⟩;exact⟨x.length,by simp;omega,by simpa using h1,by simpa using h2⟩
inductive gC (p:Lg):List Nat→Prop
 |nil:gC p []
 |qR {x y:List Nat}:p x=true→gC p y→gC p (x++y)
theorem gC.snoc {p:Lg} {x y:List Nat} (h:gC p x) (hy:p y=true):gC p (x++y):=by
 induction h with
 |nil=>simpa using gC.qR hy .nil
 |qR h1 _ ih=>rw[List.append_assoc];exact .qR h1 ih
theorem gC.last {p:Lg} {w:List Nat} (h:gC p w):w≠ []→ ∃x y,w=x++y∧gC p x∧p y=true∧y≠ []:=by
 induction h with
 |nil=>exact fun h=>absurd F h
 | @qR x y h1 h2 ih=>
  intro hw
  by_cases hy:y=[]
  ·subst hy
   refine⟨[],x,by simp,.nil,h1,?_⟩
   rintro rfl;exact hw F
  ·obtain⟨a,b,e,h3,h4,h5⟩:=ih hy
   exact⟨x++a,b,by rw[e,List.append_assoc],.qR h1 h3,h4,h5⟩
theorem sH {p:Lg}: ∀(n:Nat) (w:List Nat),w.length≤n→(vL p n w=true↔gC p w)
 |0,w,h=>by
  have:w=[]:=List.length_eq_zero_iff.1 (by omega)
  subst this;simp[vL,gC.nil]
 |n+1,w,h=>by
  unfold vL
  simp only[Bool.or_eq_true,List.isEmpty_iff,List.any_eq_true,List.mem_range,Bool.and_eq_true]
  constructor
  ·rintro(rfl|⟨i,hi,h1,h2⟩)
   ·exact .nil
   ·rw[←List.take_append_drop (i+1) w]
    exact .qR h1 ((sH n _ (by simp;omega)).1 h2)
  ·intro hs
   have key: ∀w,gC p w→w≠ []→ ∃x y,w=x++y∧x≠ []∧p x=true∧gC p y:=by
    intro w hw
    induction hw with
    |nil=>exact fun h=>absurd F h
    | @qR x y h1 h2 ih=>
     intro ue
     by_cases hx:x=[]
     ·subst hx;exact ih ue
     ·exact⟨x,y,F,hx,h1,h2⟩
   by_cases hw:w=[]
   ·exact .inl hw
   ·obtain⟨x,y,rfl,hx,h1,h2⟩:=key w hs hw
    have B8:=List.length_pos_iff.2 hx
    refine .inr ⟨x.length-1,by simp;omega,?_,?_⟩
    ·rw[show x.length-1+1=x.length by omega];simpa using h1
    ·rw[show x.length-1+1=x.length by omega]
     simpa using(sH n y (by simp at h;omega)).2 h2
theorem so {p:Lg} {w:List Nat}:pQ p w=true↔gC p w:=sH _ _ (Nat.le_refl _)
section
variable (a b:bU)
def tk (s:Nat) (l:List Nat):List Nat:=if cF a s then yw b.next.length l b.start.toNat else l
def Gr (q:Nat×List Nat) (x:Nat):Nat×List Nat:=(dY a q.1 x,tk a b (dY a q.1 x) (eA b q.2 x))
def LF:Nat×List Nat:=(a.start.toNat,tk a b a.start.toNat [])
def Pq (q:Nat×List Nat):Bool:=q.2.any (cF b)
def xx (q:Nat×List Nat):Key:=gi ((q.1:Int)::q.2.map fun y:Nat=>(y:Int))
structure GC (q:Nat×List Nat):Prop where
 s:q.1<a.next.length
 Pt:q.2.Pairwise (· < ·)
 lt: ∀t∈q.2,t<b.next.length
abbrev yD (L B:Nat):Prop:=vi (zj (GC a b) xx (Gr a b)) L (xx (LF a b)) B
variable {a b}
theorem ll {n:Nat} (h:n<1000000):kI (n:Int):=.inr ⟨by omega,by omega⟩
theorem Eo (hn:a.next.length≤4096) (hm:b.next.length≤4096) {q:Nat×List Nat} (h:GC a b q): ∀n∈((q.1:Int)::q.2.map fun y:Nat=>(y:Int)),kI n:=fun n hn=>by
 rcases List.mem_cons.1 hn with rfl|hn
 ·exact ll (by have:=h.s;omega)
 ·obtain⟨y,hy,rfl⟩:=List.mem_map.1 hn
  exact ll (by have:=h.lt y hy;omega)
theorem Ep (hn:a.next.length≤4096) (hm:b.next.length≤4096) {q r:Nat×List Nat} (hq:GC a b q) (hr:GC a b r) (h:xx q=xx r):q=r:=by
 have:=vK (Eo hn hm hq) (Eo hn hm hr) h
 simp only[List.cons.injEq]at this
 have h2:q.2=r.2:=pw this.2
 exact Prod.ext (by omega) h2
theorem Jn (hb:Val b) {s:Nat} {l:List Nat} (ha:l.Pairwise (· < ·)) (hl: ∀t∈l,t<b.next.length):(tk a b s l).Pairwise (· < ·)∧ ∀t∈tk a b s l,t<b.next.length:=by
 unfold tk
 split
 ·exact⟨mC _ _,fun t ht=>(oZ.1 ht).1⟩
 ·exact⟨ha,hl⟩
theorem lm (d:bU) (l:List Nat) (x:Nat):(eA d l x).Pairwise (· < ·)∧ ∀t∈eA d l x,t<d.next.length:=⟨mC _ _,fun t ht=>(oZ.1 ht).1⟩
theorem Er (hb:Val b) {s:Nat} {l:List Nat} (hl: ∀t∈l,t<b.next.length) {t:Nat}:t∈tk a b s l↔t∈l∨(cF a s=true∧t=b.start.toNat):=by
 unfold tk
 split
 ·rename_i h;rw[uk hl (dl hb)];simp[h]
 ·rename_i h;simp[h]
theorem GC.len {q:Nat×List Nat} (h:GC a b q) (hn:b.next.length≤4096):q.2.length≤4096:=Nat.le_trans (dE (h.Pt.imp fun h=>Nat.ne_of_lt h) h.lt) hn
theorem GC.start (ha:Val a) (hb:Val b):GC a b (LF a b):=by
 have:=Jn (a:=a) (s:=a.start.toNat) hb (l:=[]) List.Pairwise.nil (by simp)
 exact⟨dl ha,this.1,this.2⟩
theorem GC.next (ha:Val a) (hb:Val b) {q:Nat×List Nat} (h:GC a b q) {x:Nat} (hx:x<da a):GC a b (Gr a b q x):=by
 have h2:=lm b q.2 x
 have:=Jn (a:=a) (s:=dY a q.1 x) hb h2.1 h2.2
 exact⟨(ha.fF h.s hx).1,this.1,this.2⟩
theorem D5 (ha:Valid a) (hb:Valid b):L8 (GC a b) xx (Gr a b) (Pq b) (da a):=
 ⟨fun q r x hq hr h _=>by rw[Ep ha.n4 hb.n4 hq hr h],fun q r hq hr h=>by rw[Ep ha.n4 hb.n4 hq hr h],fun q x h hx=>h.next ha.toVal hb.toVal hx⟩
theorem Bf {α:Type} {p:List α→Prop} (h0:p []) (h1: ∀u x,p u→p (u++[x])): ∀u,p u:=fun u=>by
 have: ∀n (u:List α),u.length=n→p u:=by
  intro n
  induction n with
  |zero=>exact fun u hu=>(List.length_eq_zero_iff.1 hu)▸h0
  |succ n ih=>
   intro u hu
   have ue:u≠ []:=by rintro rfl;simp at hu
   rw[←List.dropLast_concat_getLast ue]
   exact h1 _ _ (ih _ (by simp[hu]))
 exact this _ u F
theorem L9 (ha:Val a) (hb:Val b) (hv:a.vars=b.vars): ∀(u:List Nat),(∀x∈u,x<da a)→(u.foldl (Gr a b) (LF a b)).1=runN a a.start.toNat u∧ ∀t,t∈(u.foldl (Gr a b) (LF a b)).2↔ ∃x y,u=x++y∧gq a x=true∧runN b b.start.toNat y=t:=by
 have Xc:da b=da a:=by unfold da;rw[hv]
 apply Bf
 ·intro _
  refine⟨F,fun t=>?_⟩
  show t∈tk a b a.start.toNat []↔_
  rw[Er hb (by simp)]
  constructor
  ·rintro(h|⟨h,rfl⟩)
   ·cases h
   ·exact⟨[],[],F,h,F⟩
  ·rintro⟨x,y,e,h,rfl⟩
   obtain⟨rfl,rfl⟩:=List.append_eq_nil_iff.1 e.symm
   exact .inr ⟨h,F⟩
 ·intro u z ih hu
  have Ko: ∀x∈u,x<da a:=fun x hx=>hu x (by simp[hx])
  have hz:z<da a:=hu z (by simp)
  obtain⟨h1,h2⟩:=ih Ko
  rw[List.foldl_append,List.foldl_cons,List.foldl_nil]
  have hG:GC a b (u.foldl (Gr a b) (LF a b)):=by
   have: ∀(u:List Nat) (q:Nat×List Nat),GC a b q→(∀x∈u,x<da a)→GC a b (u.foldl (Gr a b) q):=by
    intro u
    induction u with
    |nil=>exact fun q h _=>h
    |cons x u ih=>exact fun q h hx=>ih _ (h.next ha hb (hx x (by simp))) fun y hy=>hx y (by simp[hy])
   exact this u _ (.start ha hb) Ko
  refine⟨by rw[eE,←h1];rfl,fun t=>?_⟩
  show t∈tk a b (dY a (u.foldl (Gr a b) (LF a b)).1 z) (eA b (u.foldl (Gr a b) (LF a b)).2 z)↔_
  rw[Er hb (lm b _ z).2,pz hb hG.lt (by have:=hz;rw[←Xc]at this;exact this),h1,←eE]
  constructor
  ·rintro(⟨s,hs,rfl⟩|⟨h,rfl⟩)
   ·obtain⟨x,y,rfl,hx,rfl⟩:=(h2 s).1 hs
    exact⟨x,y++[z],by rw[List.append_assoc],hx,eE _ _ _ _⟩
   ·exact⟨u++[z],[],by simp,h,F⟩
  ·rintro⟨x,y,e,hx,rfl⟩
   by_cases hy:y=[]
   ·subst hy
    simp only[List.append_nil]at e;subst e
    exact .inr ⟨hx,F⟩
   ·have e2:=List.dropLast_concat_getLast hy
    rw[←e2,←List.append_assoc]at e
    obtain⟨e3,e4⟩:=List.append_inj' e F
    simp only[List.cons.injEq,and_true]at e4
    refine .inl ⟨runN b b.start.toNat y.dropLast,(h2 _).2 ⟨x,y.dropLast,e3,hx,F⟩,?_⟩
    rw[e4,←eE,e2]
theorem AJ (ha:Valid a) (hb:Valid b) (hv:a.vars=b.vars) {u:List Nat} (hu: ∀x∈u,x<da a):FH (GC a b) xx (Pq b) (u.foldl (zj (GC a b) xx (Gr a b)) (xx (LF a b)))=ki (gq a) (gq b) u:=by
 rw[yU (D5 ha hb) (.start ha.toVal hb.toVal) hu]
 obtain⟨_,h2⟩:=L9 ha.toVal hb.toVal hv u hu
 rw[Bool.eq_iff_iff,ju]
 unfold Pq
 rw[List.any_eq_true]
 constructor
 ·rintro⟨t,ht,hf⟩
  obtain⟨x,y,rfl,hx,rfl⟩:=(h2 t).1 ht
  exact⟨x,y,F,hx,hf⟩
 ·rintro⟨x,y,rfl,hx,hf⟩
  exact⟨_,(h2 _).2 ⟨x,y,F,hx,F⟩,hf⟩
end
section
variable (a:bU)
def ru (q:Bool×List Nat) (x:Nat):Bool×List Nat:=(false,if(eA a q.2 x).any (cF a)then yw a.next.length (eA a q.2 x) a.start.toNat else eA a q.2 x)
def CA:Bool×List Nat:=(true,[a.start.toNat])
def LJ (q:Bool×List Nat):Bool:=q.1||q.2.any (cF a)
def gS (q:Bool×List Nat):List Int:=if q.1 then-1::q.2.map (fun y:Nat=>(y:Int))else q.2.map (fun y:Nat=>(y:Int))
def zk (q:Bool×List Nat):Key:=gi (gS q)
structure GS (q:Bool×List Nat):Prop where
 Pt:q.2.Pairwise (· < ·)
 lt: ∀t∈q.2,t<a.next.length
abbrev Cz (L B:Nat):Prop:=vi (zj (GS a) zk (ru a)) L (zk (CA a)) B
variable {a}
theorem vp (hn:a.next.length≤4096) {q:Bool×List Nat} (h:GS a q): ∀n∈gS q,kI n:=fun n hn=>by
 have h2: ∀n∈q.2.map (fun y:Nat=>(y:Int)),kI n:=fun n hn=>by
  obtain⟨y,hy,rfl⟩:=List.mem_map.1 hn
  exact ll (by have:=h.lt y hy;omega)
 unfold gS at hn
 split at hn
 ·rcases List.mem_cons.1 hn with rfl|hn
  ·exact .inl F
  ·exact h2 n hn
 ·exact h2 n hn
theorem Es (hn:a.next.length≤4096) {q r:Bool×List Nat} (hq:GS a q) (hr:GS a r) (h:zk q=zk r):q=r:=by
 have:=vK (vp hn hq) (vp hn hr) h
 obtain⟨f,l⟩:=q
 obtain⟨g,m⟩:=r
 unfold gS at this
 have hi: ∀ {l m:List Nat},l.map (fun y:Nat=>(y:Int))=m.map (fun y:Nat=>(y:Int))→l=m:=fun h=>pw h
 cases f<;>cases g<;>simp only[if_true,Bool.false_eq_true,if_false,List.cons.injEq,true_and]at this
 ·rw[hi this]
 ·cases l with
  |nil=>simp at this
  |cons y l=>simp only[List.map_cons,List.cons.injEq]at this;omega
 ·cases m with
  |nil=>simp at this
  |cons y l=>simp only[List.map_cons,List.cons.injEq]at this;omega
 ·rw[hi this]
theorem GS.start (ha:Val a):GS a (CA a):=⟨by simp[CA],fun t ht=>by simp[CA]at ht;subst ht;exact dl ha⟩
theorem GS.next {q:Bool×List Nat} (x:Nat):GS a (ru a q x):=by
 unfold ru
 refine⟨?_,?_⟩<;>dsimp only<;>split
 ·exact mC _ _
 ·exact(lm a _ x).1
 ·exact fun t ht=>(oZ.1 ht).1
 ·exact(lm a _ x).2
theorem yE (ha:Valid a):L8 (GS a) zk (ru a) (LJ a) (da a):=
 ⟨fun q r x hq hr h _=>by rw[Es ha.n4 hq hr h],fun q r hq hr h=>by rw[Es ha.n4 hq hr h],fun q x h hx=>GS.next x⟩
theorem Jo (ha:Val a): ∀(u:List Nat),(∀x∈u,x<da a)→((u.foldl (ru a) (CA a)).1=u.isEmpty)∧ ∀t,t∈(u.foldl (ru a) (CA a)).2↔ ∃x y,u=x++y∧gC (gq a) x∧runN a a.start.toNat y=t:=by
 apply Bf
 ·intro _
  refine⟨F,fun t=>?_⟩
  show t∈[a.start.toNat]↔_
  rw[List.mem_singleton]
  constructor
  ·rintro rfl;exact⟨[],[],F,.nil,F⟩
  ·rintro⟨x,y,e,h,rfl⟩
   obtain⟨rfl,rfl⟩:=List.append_eq_nil_iff.1 e.symm
   rfl
 ·intro u z ih hu
  have Ko: ∀x∈u,x<da a:=fun x hx=>hu x (by simp[hx])
  have hz:z<da a:=hu z (by simp)
  obtain⟨_,h2⟩:=ih Ko
  have hG:GS a (u.foldl (ru a) (CA a)):=by
   have: ∀(u:List Nat) (q:Bool×List Nat),GS a q→GS a (u.foldl (ru a) q):=by
    intro u
    induction u with
    |nil=>exact fun q h=>h
    |cons x u ih=>exact fun q h=>ih _ (GS.next x)
   exact this u _ (.start ha)
  rw[List.foldl_append,List.foldl_cons,List.foldl_nil]
  refine⟨by simp[ru],fun t=>?_⟩
  have hm: ∀t,t∈eA a (u.foldl (ru a) (CA a)).2 z↔ ∃x y,u=x++y∧gC (gq a) x∧runN a a.start.toNat (y++[z])=t:=fun t=>by
   rw[pz ha hG.lt hz]
   constructor
   ·rintro⟨s,hs,rfl⟩
    obtain⟨x,y,e,hx,rfl⟩:=(h2 s).1 hs
    exact⟨x,y,e,hx,eE _ _ _ _⟩
   ·rintro⟨x,y,e,hx,rfl⟩
    exact⟨_,(h2 _).2 ⟨x,y,e,hx,F⟩,(eE _ _ _ _).symm⟩
  have kJ:(eA a (u.foldl (ru a) (CA a)).2 z).any (cF a)=true↔gC (gq a) (u++[z]):=by
   rw[List.any_eq_true]
   constructor
   ·rintro⟨t,ht,hf⟩
    obtain⟨x,y,rfl,hx,rfl⟩:=(hm t).1 ht
    rw[List.append_assoc];exact hx.snoc hf
   ·intro h
    obtain⟨x,y,e,hx,hy,ue⟩:=h.last (by simp)
    have e2:=List.dropLast_concat_getLast ue
    rw[←e2,←List.append_assoc]at e
    obtain⟨e3,e4⟩:=List.append_inj' e F
    simp only[List.cons.injEq,and_true]at e4
    refine⟨_,(hm _).2 ⟨x,y.dropLast,e3,hx,F⟩,?_⟩
    rw[e4,e2];exact hy
  show t∈(if(eA a (u.foldl (ru a) (CA a)).2 z).any (cF a)then yw a.next.length (eA a (u.foldl (ru a) (CA a)).2 z) a.start.toNat else eA a (u.foldl (ru a) (CA a)).2 z)↔_
  have N0: ∀ {x y:List Nat},u++[z]=x++y→y≠ []→ ∃y',y=y'++[z]∧u=x++y':=fun {x y} e ue=>by
   have e2:=List.dropLast_concat_getLast ue
   rw[←e2,←List.append_assoc]at e
   obtain⟨e3,e4⟩:=List.append_inj' e F
   simp only[List.cons.injEq,and_true]at e4
   exact⟨y.dropLast,by rw[e4,e2],e3⟩
  by_cases hA:(eA a (u.foldl (ru a) (CA a)).2 z).any (cF a)=true
  ·rw[if_pos hA,uk (lm a _ z).2 (dl ha),hm]
   constructor
   ·rintro(⟨x,y,e,hx,h⟩|rfl)
    ·exact⟨x,y++[z],by rw[e,List.append_assoc],hx,h⟩
    ·exact⟨u++[z],[],by simp,kJ.1 hA,F⟩
   ·rintro⟨x,y,e,hx,h⟩
    by_cases hy:y=[]
    ·subst hy;exact .inr h.symm
    ·obtain⟨y',rfl,e3⟩:=N0 e hy
     exact .inl ⟨x,y',e3,hx,h⟩
  ·rw[if_neg hA,hm]
   constructor
   ·rintro⟨x,y,e,hx,h⟩
    exact⟨x,y++[z],by rw[e,List.append_assoc],hx,h⟩
   ·rintro⟨x,y,e,hx,h⟩
    by_cases hy:y=[]
    ·subst hy
     simp only[List.append_nil]at e;subst e
     exact absurd (kJ.2 hx) hA
    ·obtain⟨y',rfl,e3⟩:=N0 e hy
     exact⟨x,y',e3,hx,h⟩
theorem xy (ha:Valid a) {u:List Nat} (hu: ∀x∈u,x<da a):FH (GS a) zk (LJ a) (u.foldl (zj (GS a) zk (ru a)) (zk (CA a)))=pQ (gq a) u:=by
 rw[yU (yE ha) (.start ha.toVal) hu]
 obtain⟨h1,h2⟩:=Jo ha.toVal u hu
 rw[Bool.eq_iff_iff,so]
 unfold LJ
 rw[Bool.or_eq_true,h1,List.isEmpty_iff,List.any_eq_true]
 constructor
 ·rintro(rfl|⟨t,ht,hf⟩)
  ·exact .nil
  ·obtain⟨x,y,rfl,hx,rfl⟩:=(h2 t).1 ht
   exact hx.snoc hf
 ·intro h
  by_cases Ko:u=[]
  ·exact .inl Ko
  ·obtain⟨x,y,rfl,hx,hy,_⟩:=h.last Ko
   exact .inr ⟨_,(h2 _).2 ⟨x,y,F,hx,F⟩,hy⟩
end
end Go.Lx

namespace Go.Lx
open Go.RowKit
def ft (p n x:Nat):Bool:=decide (x&&&p=p∧x&&&n=0)
def FJ (n:Nat) (h:Nat→Bool):Lg:=fun u=>u.length==n&&u.all h
def Nx (n:Nat) (h:Nat→Bool) (s x:Nat):Int:=if s<n∧h x=true then((s+1:Nat):Int)else((n+1:Nat):Int)
def tn (L n:Nat) (h:Nat→Bool) (s:Nat):List Int:=(List.range L).map (Nx n h s)
def CB (v n:Nat) (h:Nat→Bool):bU:=⟨v,0,(List.range (n+2)).map (tn (2^v) n h),(List.replicate (n+2) false).set n true⟩
theorem FX {v n:Nat} (h:Nat→Bool) (hv:v≤6) (hn:n≤1):Valid (CB v n h):=by
 have n0:(CB v n h).next.length=n+2:=by show((List.range (n+2)).map _).length=_;simp
 refine⟨{v0:=Int.natCast_nonneg _,v6:=by show(v:Int)≤6;omega,n0:=by omega,fin:=by rw[n0];show((List.replicate (n+2) false).set n true).length=_;simp,s0:=Int.le_refl _,s1:=by rw[n0];show(0:Int)<_;omega,len:=?_,ok:=?_},by omega⟩
 ·intro r hr
  obtain⟨s,_,rfl⟩:=List.mem_map.1 (show r∈(List.range (n+2)).map _ from hr)
  show((List.range (2^v)).map _).length=2^((v:Int).toNat)
  simp
 ·intro r hr x hx
  rw[n0]
  obtain⟨s,hs,rfl⟩:=List.mem_map.1 (show r∈(List.range (n+2)).map _ from hr)
  obtain⟨y,_,rfl⟩:=List.mem_map.1 (show x∈(List.range (2^v)).map _ from hx)
  unfold Nx
  split<;>omega
theorem QM {v n:Nat} {h:Nat→Bool} {s x:Nat} (hs:s<n+2) (hx:x<2^v):dY (CB v n h) s x=if s<n∧h x=true then s+1 else n+1:=by
 have h1:(CB v n h).next[s]? =some (tn (2^v) n h s):=by show((List.range (n+2)).map _)[s]? =_;rw[List.getElem?_map,List.getElem?_range hs];rfl
 have h2:(tn (2^v) n h s)[x]? =some (Nx n h s x):=by unfold tn;rw[List.getElem?_map,List.getElem?_range hx];rfl
 unfold dY
 simp only[List.getD_eq_getElem?_getD,h1,Option.getD_some,h2]
 unfold Nx
 split<;>exact Int.toNat_natCast _
theorem yV {v n:Nat} {h:Nat→Bool}: ∀(u:List Nat) (s:Nat),s≤n+1→(∀x∈u,x<2^v)→runN (CB v n h) s u=if s+u.length≤n∧u.all h=true then s+u.length else if u=[]then s else n+1
 | [],s,hs,_=>by
  simp only[List.length_nil,Nat.add_zero,List.all_nil]
  show s=_
  split<;>rfl
 |x::u,s,hs,hu=>by
  have VL: ∀y∈u,y<2^v:=fun y hy=>hu y (by simp[hy])
  unfold runN
  rw[List.foldl_cons,QM (by omega) (hu x (by simp))]
  by_cases hh:s<n∧h x=true
  ·rw[if_pos hh]
   have h1:=yV (h:=h) (n:=n) u (s+1) (by omega) VL
   unfold runN at h1
   rw[h1]
   simp only[List.length_cons,List.all_cons,hh.2,Bool.true_and,reduceCtorEq,if_false]
   have e:s+1+u.length=s+(u.length+1):=by omega
   rw[e]
   by_cases Ko:u=[]
   ·subst Ko
    simp only[List.length_nil,List.all_nil,Nat.zero_add]
    rw[if_pos ⟨by omega,trivial⟩,if_pos ⟨by omega,trivial⟩]
   ·rw[if_neg Ko]
  ·rw[if_neg hh]
   have h1:=yV (h:=h) (n:=n) u (n+1) (by omega) VL
   unfold runN at h1
   rw[h1]
   simp only[List.length_cons,List.all_cons,reduceCtorEq,if_false]
   rw[if_neg (show¬(n+1+u.length≤n∧u.all h=true)from fun h9=>by omega),if_neg (show¬(s+(u.length+1)≤n∧(h x&&u.all h)=true)from fun h9=>hh ⟨by omega,(Bool.and_eq_true_iff.1 h9.2).1⟩)]
   split<;>rfl
theorem ug {v n:Nat} (h:Nat→Bool) (hv:v≤6) (hn:n≤1):HasL (v:Int) 3 (CB v n h) (FJ n h):=by
 have n0:(CB v n h).next.length=n+2:=by show((List.range (n+2)).map _).length=_;simp
 refine⟨FX h hv hn,by omega,F,fun u hu=>?_⟩
 have VL: ∀x∈u,x<2^v:=fun x hx=>by simpa using hu x hx
 unfold gq cF FJ
 show((List.replicate (n+2) false).set n true).getD (runN (CB v n h) 0 u) false=_
 rw[yV u 0 (by omega) VL,Nat.zero_add]
 have hf: ∀k,k≤n+1→((List.replicate (n+2) false).set n true).getD k false=decide (k=n):=fun k hk=>by
  rw[List.getD_eq_getElem?_getD]
  by_cases e:k=n
  ·subst e;rw[List.getElem?_set_self (by simp)];simp
  ·rw[List.getElem?_set_ne (fun h=>e h.symm),List.getElem?_replicate];simp[e];split<;>rfl
 by_cases c1:u.length≤n∧u.all h=true
 ·rw[if_pos c1,hf _ (by omega),c1.2,Bool.and_true]
  by_cases e:u.length=n<;>simp[e]
 ·rw[if_neg c1]
  by_cases e:u=[]
  ·subst e;exact absurd ⟨by simp,by simp⟩ c1
  ·rw[if_neg e,hf _ (by omega)]
   rw[decide_eq_false (by omega)]
   symm
   rw[Bool.and_eq_false_iff]
   by_cases e2:u.length=n
   ·exact .inr (by cases h9:u.all h with|false=>rfl|true=>exact absurd ⟨by omega,h9⟩ c1)
   ·exact .inl (by simp[e2])
theorem eR {v:Nat} (hv:v≤6):HasL (v:Int) 1 (eo (v:Int) true) (fun _=>true):=
 ⟨uv (by omega) (by omega) true,by show[_].length≤1;simp,F,fun w hw=>Gy (by omega) (by omega) true hw⟩
end Go.Lx

namespace Go.Lx
open Go.RowKit
inductive Rx where
 |none|empty
 |letter (p n:Nat)
 |jl (a b:Rx)|j5 (a b:Rx)|and (a b:Rx)
 |not (a:Rx)|star (a:Rx)|ahead (a:Rx)|behind (a:Rx)
structure dF where
 op:Nat
 p:Nat
 n:Nat
 a:Int
 b:Int
def dF.cells (x:dF):List Value:=[.int .u8 (x.op:Int),.int .u8 (x.p:Int),.int .u8 (x.n:Int),.int .i64 x.a,.int .i64 x.b]
abbrev dF.cl (x:dF):List Value:=[.int .u8 (x.op:Int),.int .u8 (x.p:Int),.int .u8 (x.n:Int),.int .i64 x.a,.int .i64 x.b]
abbrev dF.ag (x:dF):Value:=.agg #[.int .u8 (x.op:Int),.int .u8 (x.p:Int),.int .u8 (x.n:Int),.int .i64 x.a,.int .i64 x.b]
def bg (e:List dF):List Value:=e.flatMap dF.cells
theorem bE (e:List dF):(bg e).length=e.length*5:=by
 induction e with
 |nil=>rfl
 |cons x e ih=>simp only[bg,List.flatMap_cons,List.length_append,List.length_cons]at ih⊢;rw[ih];simp[dF.cells];omega
theorem jP {e:List dF}: ∀ {i:Nat} (hi:i<e.length) (j:Nat) (h:j<e[i].cells.length),(bg e)[i*5+j]? =some e[i].cells[j]:=by
 induction e with
 |nil=>intro i hi;simp at hi
 |cons x e ih=>
  intro i hi j hj
  simp only[bg,List.flatMap_cons]
  cases i with
  |zero=>rw[Nat.zero_mul,Nat.zero_add,List.getElem?_append_left (show j<x.cells.length from hj)];exact List.getElem?_eq_getElem hj
  |succ i=>
   have h5:x.cells.length=5:=rfl
   rw[List.getElem?_append_right (by rw[h5];omega),show(i+1)*5+j-x.cells.length=i*5+j by rw[h5];omega]
   exact ih (by simpa using hi) j hj
def BW (e:List dF):Rx→Nat→Prop
 | .none,i=>e[i]? =some ⟨1,0,0,0,0⟩
 | .empty,i=>e[i]? =some ⟨2,0,0,0,0⟩
 | .letter p n,i=>e[i]? =some ⟨3,p,n,0,0⟩∧p<256∧n<256
 | .jl a b,i=> ∃j k:Nat,e[i]? =some ⟨4,0,0,(j:Int),(k:Int)⟩∧BW e a j∧BW e b k
 | .j5 a b,i=> ∃j k:Nat,e[i]? =some ⟨5,0,0,(j:Int),(k:Int)⟩∧BW e a j∧BW e b k
 | .and a b,i=> ∃j k:Nat,e[i]? =some ⟨6,0,0,(j:Int),(k:Int)⟩∧BW e a j∧BW e b k
 | .not a,i=> ∃j:Nat,e[i]? =some ⟨7,0,0,(j:Int),0⟩∧BW e a j
 | .star a,i=> ∃j:Nat,e[i]? =some ⟨8,0,0,(j:Int),0⟩∧BW e a j
 | .ahead a,i=> ∃j:Nat,e[i]? =some ⟨9,0,0,(j:Int),0⟩∧BW e a j
 | .behind a,i=> ∃j:Nat,e[i]? =some ⟨10,0,0,(j:Int),0⟩∧BW e a j
theorem gf {e:List dF} {i:Nat} {x:dF} (h:e[i]? =some x): ∃hi:i<e.length,e[i]=x:=by
 obtain⟨hi,h⟩:=List.getElem?_eq_some_iff.1 h;exact⟨hi,h⟩
def Rx.plain:Rx→Bool
 | .ahead _| .behind _=>false
 | .jl a b| .j5 a b| .and a b=>a.plain&&b.plain
 | .not a| .star a=>a.plain
 |_=>true
def gd:Rx→Lg
 | .none=>fun _=>false
 | .empty=>FJ 0 (ft 0 0)
 | .letter p n=>FJ 1 (ft p n)
 | .jl a b=>ki (gd a) (gd b)
 | .j5 a b=>fun u=>gd a u||gd b u
 | .and a b=>fun u=>gd a u&&gd b u
 | .not a=>fun u=>!gd a u
 | .star a=>pQ (gd a)
 | .ahead a=>gd a
 | .behind a=>gd a
instance:Nonempty bU:=⟨zv⟩
noncomputable def minOf (v:Nat) (p:Lg):bU:=Classical.epsilon fun M=>eF (v:Int) 4096 M p
theorem fD {v B:Nat} {M:bU} {p:Lg} (h:eF (v:Int) B M p) (hB:B≤4096):M=minOf v p:=by
 have h2:eF (v:Int) 4096 M p:=⟨h.toHasL.le (Nat.le_trans h.len hB),h.min⟩
 have h3:=Classical.epsilon_spec (p:=fun M=>eF (v:Int) 4096 M p) ⟨M,h2⟩
 exact eF.ext h2 h3 fun _ _=>rfl
def UH (f:Bool→Bool→Bool) (a b:bU) (B:Nat):Prop:=(order (aU f a b)).length≤4096∧(rV f a b).next.length≤B
def iP (v:Nat):Rx→Nat→Prop
 | .none,B=>(l9 (eo (v:Int) true)).next.length≤B
 | .empty,B=>(gJ (CB v 0 (ft 0 0))).next.length≤B
 | .letter p n,B=>(gJ (CB v 1 (ft p n))).next.length≤B
 | .jl a b,B=>iP v a B∧iP v b B∧yD (minOf v (gd a)) (minOf v (gd b)) (da (minOf v (gd a))) B
 | .j5 a b,B=>iP v a B∧iP v b B∧UH B1 (minOf v (gd a)) (minOf v (gd b)) B
 | .and a b,B=>iP v a B∧iP v b B∧UH pX (minOf v (gd a)) (minOf v (gd b)) B
 | .not a,B=>iP v a B∧(l9 (minOf v (gd a))).next.length≤B
 | .star a,B=>iP v a B∧Cz (minOf v (gd a)) (da (minOf v (gd a))) B
 | .ahead a,B=>iP v a B
 | .behind a,B=>iP v a B
theorem eP {v:Nat} {B B':Nat} (hB:B≤B'): ∀ {t:Rx},iP v t B→iP v t B'
 | .none,h=>Nat.le_trans h hB
 | .empty,h=>Nat.le_trans h hB
 | .letter p n,h=>Nat.le_trans h hB
 | .jl a b,h=>⟨eP hB h.1,eP hB h.2.1,vi.mono h.2.2 hB⟩
 | .j5 a b,h=>⟨eP hB h.1,eP hB h.2.1,h.2.2.1,Nat.le_trans h.2.2.2 hB⟩
 | .and a b,h=>⟨eP hB h.1,eP hB h.2.1,h.2.2.1,Nat.le_trans h.2.2.2 hB⟩
 | .not a,h=>⟨eP hB h.1,Nat.le_trans h.2 hB⟩
 | .star a,h=>⟨eP hB h.1,vi.mono h.2 hB⟩
 | .ahead a,h=>eP (t:=a) hB h
 | .behind a,h=>eP (t:=a) hB h
theorem notM {v:Int} {B C:Nat} {M:bU} {p:Lg} (h:HasL v B M p) (hl:(l9 M).next.length≤C):eF v C (l9 M) (fun u=>!p u):=by
 have hv:=h.valid.toVal
 have h1:=uD (f:=nU) h h (N:=M.next.length) (nV hv hv F hv F (Ky.refl M) (Ky.refl M)) h.valid.n4
 exact⟨h1.toHasL.le hl,h1.min⟩
theorem Is {v B:Nat} (hv:v≤6) (hl:(l9 (eo (v:Int) true)).next.length≤B):eF (v:Int) B (l9 (eo (v:Int) true)) (gd .none):=notM (eR hv) hl
theorem Vz {f:Bool→Bool→Bool} {v:Int} {B C:Nat} {a b:bU} {p q:Lg} (ha:eF v B a p) (hb:eF v B b q) (ho:(order (aU f a b)).length≤4096) (hl:(rV f a b).next.length≤C):eF v C (rV f a b) (fun u=>f (p u) (q u)):=by
 have h1:=uD (f:=f) ha.toHasL hb.toHasL ho (Nat.le_refl _)
 exact⟨h1.toHasL.le hl,h1.min⟩
theorem nT.take {v:Int} {w:List Nat} (h:nT v w) (n:Nat):nT v (w.take n):=fun x hx=>h x (List.mem_of_mem_take hx)
theorem nT.drop {v:Int} {w:List Nat} (h:nT v w) (n:Nat):nT v (w.drop n):=fun x hx=>h x (List.mem_of_mem_drop hx)
theorem vM {α:Type} {l:List α} {f g:α→Bool} (h: ∀x∈l,f x=g x):l.any f=l.any g:=by
 induction l with
 |nil=>rfl
 |cons x l ih=>rw[List.any_cons,List.any_cons,h x (by simp),ih fun y hy=>h y (by simp[hy])]
theorem nk {v:Int} {p q p' q':Lg} (hp: ∀w,nT v w→p w=p' w) (hq: ∀w,nT v w→q w=q' w) {w:List Nat} (hw:nT v w):ki p q w=ki p' q' w:=
 vM fun i _=>by rw[hp _ (hw.take i),hq _ (hw.drop i)]
theorem tE {v:Int} {p p':Lg} (hp: ∀w,nT v w→p w=p' w): ∀(n:Nat) {w:List Nat},nT v w→vL p n w=vL p' n w
 |0,w,_=>rfl
 |n+1,w,hw=>by
  show(w.isEmpty||_)=(w.isEmpty||_)
  congr 1
  exact vM fun i _=>by rw[hp _ (hw.take _),tE hp n (hw.drop _)]
theorem tq {v:Int} {p p':Lg} (hp: ∀w,nT v w→p w=p' w) {w:List Nat} (hw:nT v w):pQ p w=pQ p' w:=tE hp _ hw
theorem eF.to {v:Int} {B:Nat} {M:bU} {p q:Lg} (h:eF v B M p) (hq: ∀w,nT v w→p w=q w):eF v B M q:=
 ⟨⟨h.valid,h.len,h.vars,fun u hu=>by rw[h.gq u hu];exact hq u hu⟩,h.min⟩
theorem ew {e:List dF} {i:Nat} {x:dF} (h:e[i]? =some x): ∀j (hj:j<x.cells.length),(bg e)[i*5+j]? =some x.cells[j]:=fun j hj=>by
 obtain⟨hi,rfl⟩:=gf h
 exact jP hi j hj
end Go.Lx

namespace Go.Lx
open Go.RowKit Go.ChangeShapes Go.WideShapes Go.Deep
section
variable {H:Type} {enc:TypeId×Value→H} {P:Program}
theorem KD {te e ti tu:TypeId} {f0 f1 f2 f3 f4:Field} {W:World} {r:Reach} {b0:Nat} {v:Value} {d:DataW H} {p:List MemPlace} (ht:P.underlying te=some (.slice e)) (he:P.underlying e=some (.struct #[f0,f1,f2,f3,f4])) (ce:P.cellsOf e=5) (be:0<P.bytesOf e)
  (h0:f0.type=tu) (h1:f1.type=tu) (h2:f2.type=tu) (h3:f3.type=ti) (h4:f4.type=ti) (o0:f0.offset=0) (o1:f1.offset=1) (o2:f2.offset=2) (o3:f3.offset=3) (o4:f4.offset=4)
  (hi:P.underlying ti=some (.int .i64)) (hu:P.underlying tu=some (.int .u8)) (ci:P.cellsOf ti=1) (cu:P.cellsOf tu=1)
  (pC:Value.okWide P W r b0 te v) (hw: ∀m∈d.weights P te,m≤reachBytes) (g:DataW.Trod enc P W 0 (fun _=>true) true te v d p):
  ∃(b:Option Addr) (cp:Nat) (es:List dF),v=.slice b es.length cp∧es.length≤reachBytes∧es.length≤cp∧Sl W b (bg es)∧ ∀x∈es,x.p<256∧x.n<256:=by
 obtain⟨eX,g⟩:=g
 have hv:v.cells.toList=[v]:=by
  unfold Value.okWide at pC
  rw[ht]at pC
  simp only at pC
  unfold Cell.okWide Cell.ok at pC
  rw[ht]at pC
  cases v<;>simp_all[Value.cells]
 rw[hv]at g
 rcases open_slice ht g with⟨h,_⟩|⟨a,len,cap,m,n,D,Pl,h,_,hl,_,hm,hx,lS⟩
 ·exact⟨none,0,[],by simpa using h,Nat.zero_le _,Nat.zero_le _,Sl.nil _ _,fun e h=>by cases h⟩
 ·simp only[if_true]at hm
  have V5:=hm.symm
  subst V5
  have hd:d=_:=congrArg Prod.fst hx
  rw[hd]at hw
  have hb:=(zE ht be hw).1
  have BL:len≤reachBytes:=by simpa using hb
  have each: ∀i,i<cap→ ∃q:dF,(q.p<256∧q.n<256)∧ ∀j,j<5→W.cell? (a.add (i*5+j))=q.cells[j]? :=by
   intro i GW
   obtain⟨x5,k1,k2⟩:=lS i GW
   rw[ce]at k1
   obtain⟨_,gv,RM⟩:=World.cells?_some k1
   obtain⟨xs,k,hk,Yv,_,B8,hf⟩:=DataW.trod_struct he k2
   match xs,B8,x5,gv with
   | [y0,y1,y2,y3,y4],_,[v0,v1,v2,v3,v4],_=>
    have g0:=hf 0 f0 F
    have g1:=hf 1 f1 F
    have g2:=hf 2 f2 F
    have g3:=hf 3 f3 F
    have g4:=hf 4 f4 F
    rw[h0,o0,cu]at g0
    rw[h1,o1,cu]at g1
    rw[h2,o2,cu]at g2
    rw[h3,o3,ci]at g3
    rw[h4,o4,ci]at g4
    obtain⟨n0,e0,_,w0⟩:=DataW.trod_int hu g0
    obtain⟨n1,e1,_,w1⟩:=DataW.trod_int hu g1
    obtain⟨n2,e2,_,w2⟩:=DataW.trod_int hu g2
    obtain⟨n3,e3,_,w3⟩:=DataW.trod_int hi g3
    obtain⟨n4,e4,_,w4⟩:=DataW.trod_int hi g4
    have Z8:v0=.int .u8 n0:=by simpa using e0
    have Z9:v1=.int .u8 n1:=by simpa using e1
    have Z_:v2=.int .u8 n2:=by simpa using e2
    have e3':v3=.int .i64 n3:=by simpa using e3
    have e4':v4=.int .i64 n4:=by simpa using e4
    subst Z8 Z9 Z_ e3' e4'
    have b0:=Og w0
    have b1:=Og w1
    have b2:=Og w2
    refine⟨⟨n0.toNat,n1.toNat,n2.toNat,n3,n4⟩,⟨by simp only;omega,by simp only;omega⟩,fun j hj=>?_⟩
    have q:=RM j hj
    rw[add_add]at q
    rw[q]
    match j,hj with
    |0,_=>simp[dF.cells,Int.toNat_of_nonneg b0.1]
    |1,_=>simp[dF.cells,Int.toNat_of_nonneg b1.1]
    |2,_=>simp[dF.cells,Int.toNat_of_nonneg b2.1]
    |3,_=>rfl
    |4,_=>rfl
  have:Inhabited dF:=⟨⟨0,0,0,0,0⟩⟩
  obtain⟨q,hq⟩:=choose_lt each
  refine⟨some a,cap,(List.range len).map q,by simpa using h,by simp;omega,by simp;omega,x4 fun i GW=>?_,fun e he9=>?_⟩
  ·have ub:i<len*5:=by rw[bE]at GW;simpa using GW
   have h4:=(hq (i/5) (by omega)).2 (i%5) (by omega)
   rw[show i/5*5+i%5=i by omega]at h4
   rw[h4]
   have h5:=jP (e:=(List.range len).map q) (i:=i/5) (by simp;omega) (i%5) (by simp[dF.cells];omega)
   rw[show i/5*5+i%5=i by omega,List.getElem?_eq_getElem GW]at h5
   rw[Option.some.inj h5]
   simp only[List.getElem_map,List.getElem_range]
   exact List.getElem?_eq_getElem _
  ·obtain⟨j,hj,rfl⟩:=List.mem_map.1 he9
   exact(hq j (by have:=List.mem_range.1 hj;omega)).1
end
end Go.Lx

namespace Go.Proofs.YtgdbfideeeegmaaGreatDoor
open Go.ChangeShapes Go.WideShapes Go.ChangeAt Go.RowKit Go.Lx _root_.Go.Proofs.Tryz
set_option maxRecDepth 100000
theorem own:ownKnob Tryz.prog.godebug=none:=by kernel_rfl
theorem laidOut:laidOutB Tryz.prog=true:=by kernel_rfl
theorem GO:Tryz.prog.readableRec 3=true:=by kernel_rfl
theorem Ys:3<Tryz.prog.types.size:=of_decide_eq_true (by kernel_rfl)
theorem Lp:Tryz.prog.cellsOf 5=1:=by kernel_rfl
theorem Lq:Tryz.prog.cellsOf 3=1:=by kernel_rfl
theorem KA:Tryz.prog.readableRec 32=true:=by kernel_rfl
theorem V1:32<Tryz.prog.types.size:=of_decide_eq_true (by kernel_rfl)
theorem Lr:Tryz.prog.cellsOf 72=5:=by kernel_rfl
theorem Ls:0<Tryz.prog.bytesOf 72:=of_decide_eq_true (by kernel_rfl)
theorem V0 {n:Nat} (h:n≤reachBytes):n<4611686018427387904:=Nat.lt_of_le_of_lt h (by decide)
theorem Oc {H:Type} {enc:TypeId×Value→H} {W:World} {r:Reach} {base:Nat} {v:Value} {d:DataW H} {p:List MemPlace} (pC:Value.okWide Tryz.prog W r base 32 v) (hw: ∀m∈d.weights Tryz.prog 32,m≤reachBytes) (h:DataW.Trod enc Tryz.prog W 0 (fun _=>true) true 32 v d p):
  ∃(b:Option Addr) (cp:Nat) (es:List dF),v=.slice b es.length cp∧es.length≤reachBytes∧es.length≤cp∧Sl W b (bg es)∧ ∀x∈es,x.p<256∧x.n<256:=
 KD underlying32 underlying72 Lr Ls F F F F F F F F F F underlying3 underlying5 Lq Lp pC hw h
def HS (cs:Array Value):Obj→Obj
 | .cells _ t frozen=>.cells cs t frozen
 |o=>o
noncomputable def r5 (os:Os):World:=
 {World.holding Tryz.prog os ⟨#[],#[],[]⟩with heap:=((((World.holding Tryz.prog os ⟨#[],#[],[]⟩).heap.modify 0 (HS #[.int .u64 1,.int .u64 10,.int .u64 100,.int .u64 1000,.int .u64 10000,.int .u64 100000,.int .u64 1000000,.int .u64 10000000,.int .u64 100000000,.int .u64 1000000000,.int .u64 10000000000,.int .u64 100000000000,.int .u64 1000000000000,.int .u64 10000000000000,.int .u64 100000000000000,.int .u64 1000000000000000,.int .u64 10000000000000000,.int .u64 100000000000000000,.int .u64 1000000000000000000,.int .u64 10000000000000000000])).modify 1 (HS #[.int .u8 0,.int .u8 1,.int .u8 28,.int .u8 2,.int .u8 29,.int .u8 14,.int .u8 24,.int .u8 3,.int .u8 30,.int .u8 22,.int .u8 20,.int .u8 15,.int .u8 25,.int .u8 17,.int .u8 4,.int .u8 8,.int .u8 31,.int .u8 27,.int .u8 13,.int .u8 23,.int .u8 21,.int .u8 19,.int .u8 16,.int .u8 7,.int .u8 26,.int .u8 12,.int .u8 18,.int .u8 6,.int .u8 11,.int .u8 5,.int .u8 10,.int .u8 9])).modify 2 (HS #[.int .u8 0,.int .u8 1,.int .u8 56,.int .u8 2,.int .u8 57,.int .u8 49,.int .u8 28,.int .u8 3,.int .u8 61,.int .u8 58,.int .u8 42,.int .u8 50,.int .u8 38,.int .u8 29,.int .u8 17,.int .u8 4,.int .u8 62,.int .u8 47,.int .u8 59,.int .u8 36,.int .u8 45,.int .u8 43,.int .u8 51,.int .u8 22,.int .u8 53,.int .u8 39,.int .u8 33,.int .u8 30,.int .u8 24,.int .u8 18,.int .u8 12,.int .u8 5,.int .u8 63,.int .u8 55,.int .u8 48,.int .u8 27,.int .u8 60,.int .u8 41,.int .u8 37,.int .u8 16,.int .u8 46,.int .u8 35,.int .u8 44,.int .u8 21,.int .u8 52,.int .u8 32,.int .u8 23,.int .u8 11,.int .u8 54,.int .u8 26,.int .u8 40,.int .u8 15,.int .u8 34,.int .u8 20,.int .u8 31,.int .u8 10,.int .u8 25,.int .u8 14,.int .u8 19,.int .u8 9,.int .u8 13,.int .u8 8,.int .u8 7,.int .u8 6]))}
theorem RE {W:World} (hL:laidMetH Tryz.prog [("math/bits.deBruijn32tab",Rows.laid_math_bits_deBruijn32tab),("math/bits.deBruijn64tab",Rows.laid_math_bits_deBruijn64tab),("internal/strconv.uint64pow10",Rows.laid_internal_strconv_uint64pow10)] W):cG Tryz.prog W:=by
 have h:laidMet Tryz.prog [("math/bits.deBruijn32tab",Rows.laid_math_bits_deBruijn32tab),("math/bits.deBruijn64tab",Rows.laid_math_bits_deBruijn64tab),("internal/strconv.uint64pow10",Rows.laid_internal_strconv_uint64pow10)] W:=hL
 obtain⟨ps,h,_⟩:=h
 have hz:=h
 obtain⟨_,h⟩:=lW h
 obtain⟨_,h⟩:=lW h
 obtain⟨_,hz⟩:=lW hz
 exact cG.of (pL (g:=0) (t:=282) (e:=256) (n:=20) (by kernel_rfl) (by kernel_rfl) (by kernel_rfl) underlying282 underlying256 (by kernel_rfl) (by kernel_rfl) h) (.inr (pL (g:=2) (t:=298) (e:=5) (n:=64) (by kernel_rfl) (by kernel_rfl) (by kernel_rfl) underlying298 underlying5 (by kernel_rfl) (by kernel_rfl) hz))
end Go.Proofs.YtgdbfideeeegmaaGreatDoor

namespace Go.Lx
open Go.RowKit
theorem Fs {P:Program} {r:Option Nat} {base:World} {n:Nat} {c:Code} {Q:jk} {ρ:Env} {O:List Item} (O':List Item) (L:List (Nat×Value)) (e:O=O') (h:cw L ρ) (k: ∀fE,T P r base n c Q (zN L fE) O'):T P r base n c Q ρ O:=by
 obtain⟨fE,rfl⟩:=h.elim
 subst e
 exact k fE
theorem lG {P:Program} {r:Option Nat} {base:World} {n m:Nat} {c:Code} {Q:jk} {ρ:Env} {O:List Item} (O':List Item) (L:List (Nat×Value)) (e:O=O') (h:cw L ρ) (k: ∀fE,M0 P r base n c Q m (zN L fE) O'):M0 P r base n c Q m ρ O:=by
 obtain⟨fE,rfl⟩:=h.elim
 subst e
 exact k fE
section
variable {P:Program} {base:World} {ρ:Env} {O:List Item} {dst:Option Nat} {t:TypeId} {p:String} {af:Array Edge} {g:Option (Nat×Bool)}
end
end Go.Lx

namespace Go.Lx
open Go.RowKit
def cB (P:Program) (base:World) (tm:Value) (f:FuncId) (args:List Value) (O:List Item) (R:Value→List Item→Prop) (Z:Prop):Prop:=
 ∀w M,Inv base (O++M) w→Calls P f args.toArray w fun e w'=>(∃v O',e=.returned v∧Inv base (O'++M) w'∧R v O')∨(e=.panicked [{v:=tm,recovered:=false}]∧Inv base M w'∧Z)
theorem cB.mono {P:Program} {base:World} {tm:Value} {f:FuncId} {args:List Value} {O:List Item} {R R':Value→List Item→Prop} {Z Z':Prop} (h:cB P base tm f args O R Z) (hr: ∀v O',R v O'→R' v O') (hz:Z→Z'):cB P base tm f args O R' Z':=
 fun w M hI=>(h w M hI).mono fun _ _ h=>h.imp (fun⟨v,O',h1,h2,h3⟩=>⟨v,O',h1,h2,hr v O' h3⟩) (fun⟨h1,h2,h3⟩=>⟨h1,h2,hz h3⟩)
theorem cB.under {P:Program} {base:World} {tm:Value} {f:FuncId} {args:List Value} {A B O:List Item} {R:Value→List Item→Prop} {Z:Prop} (h:cB P base tm f args A R Z) (hs:Sub (A++B) O):cB P base tm f args O (fun v O'=> ∃A',O'=A'++B∧R v A') Z:=
 fun w M hI=>(h w (B++M) (by have:=hI.iN hs.qR;rwa[List.append_assoc]at this)).mono fun _ _ h=>h.imp (fun⟨v,A',h1,h2,h3⟩=>⟨v,A'++B,h1,by rwa[List.append_assoc],A',F,h3⟩) (fun⟨h1,h2,h3⟩=>⟨h1,h2.iN ⟨M,List.Perm.refl _,List.sublist_append_right B M⟩,h3⟩)
theorem cB.pure {P:Program} {base:World} {tm:Value} {f:FuncId} {args:List Value} {O:List Item} {R:Value→List Item→Prop} {Z:Prop} (h: ∀w,Inv base O w→cB P w tm f args [] R Z):cB P base tm f args O (fun v O'=> ∃N,O'=N++O∧R v N) Z:=
 fun w M hI=>(h w hI.left w [] (Inv.refl w)).mono fun _ _ h=>h.imp (fun⟨v,N,h1,h2,h3⟩=>⟨v,N++O,h1,by
  have:=hI.call h2
  simpa[List.append_assoc]using this,N,F,h3⟩) (fun⟨h1,h2,h3⟩=>⟨h1,by
  have:=hI.call h2
  exact this.iN ⟨M,List.Perm.refl _,by simp⟩,h3⟩)
theorem bm.dJ {P:Program} {base:World} {f:FuncId} {args:List Value} {O:List Item} {R:Value→List Item→Prop} (E:TypeId) (k:Nat) (h:bm P base f args (am none 0 E k []::O) R):bm P base f args O R:=
 fun w M hI=>h w M (Inv.dJ hI E k)
theorem Inv.iG {base w:World} {O:List Item} (hI:Inv base O w) {b:Nat} {cs:List Value} {T:TypeId} (h:cR b (.cells cs.toArray T (0,0))∈O):Sl w (aD b) cs:=fun i hi=>by
 have hb:w.heap[b]? =some (.cells cs.toArray T (0,0)):=hI.holds _ h
 exact⟨⟨b,0,none⟩,F,F,by simp[World.cell?,hb,hi]⟩
theorem cD {P:Program} {base:World} {O:List Item} {fv:Value} {args:List Value} {R:Value→List Item→Prop} (h: ∀w,Inv base O w→dn P w fv args [] R):dn P base fv args O (fun v O'=> ∃N,O'=N++O∧R v N):=fun w M hI=>by
 have h1:=h w hI.left w [] (Inv.refl w)
 have key: ∀w' N,Inv w (N++[]) w'→Inv base (N++O++M) w':=fun w' N h2=>by
  have:=hI.call h2
  simpa[List.append_assoc]using this
 revert h1
 cases(jq fv args.toArray).run P w with
 |halt e w=>exact id
 |ok y w=>
  cases y<;>first
   |exact id
   |exact fun h=>Calls.mono h fun _ _ ⟨v,N,h1,h2,h3⟩=>⟨v,N++O,h1,key _ N h2,N,F,h3⟩
   |exact fun h=>RoundIn.mono h fun _ _ ⟨v,N,h1,h2,h3⟩=>⟨v,N++O,h1,key _ N h2,N,F,h3⟩
section
variable {P:Program} {r:Option Nat} {base:World} {n:Nat} {Q:jk} {ρ:Env} {O S S2:List Item} {tail cn:List Nat} {ops:Array Oper} {K:Env→List Item→Prop} {X:PX}
def MC (X:PX) (P:Program) (r:Option Nat) (base:World) (n:Nat) (o:Oper) (ρ:Env) (O:List Item) (K:Env→List Item→Prop):Prop:=
 ∀a w M ds,Ag n ds a ρ→Inv base (O++M) w→ ∀(next:Act→World→Prop) (Qx:Exit→Act→World→Prop),
  (∀a' fB O' w',Ag n ds a' fB→Inv base (O'++M) w'→K fB O'→next a' w')→(∀c w',X c→Inv base M w'→Qx (.panic c) a w')→o.wpIn (Fr r) 0 P a w next Qx
theorem de {l:List Oper} {o:Oper} (hg:o.guard=none) (h:MC X P r base n o ρ O (fun fB O'=>TO X P r base n ops l K fB O')):TO X P r base n ops (o::l) K ρ O:=
 fun Q a w M D hk ha hi=>wpListIn_plain hg fun next dT=>h a w _ _ ha hi next _ (fun a' _ _ w' h1 h2 h3=>dT a' w' (h3 Q a' w' M D hk h1 h2)) fun c w' hx hI=>⟨ρ,[],D,ha,hI,hk.2 c ρ hx⟩
theorem wg {eX:Nat} {listed:Array Bool} (i:Nat) {o:Oper} (hi:ops[i]? =some o) (hg:o.guard=none) (hr:Region.ready .any ops listed=[i])
  (h:MC X P r base n o ρ O (fun fB O'=>(i∈tail∨Sub S O')∧(i∈cn∨Sub S2 O')∧RO X P r base n ops S tail S2 cn eX (listed.setIfInBounds i true) K fB O')):RO X P r base n ops S tail S2 cn (eX+1) listed K ρ O:=by
 intro Q a w M D hq hp ha hI l_ hS
 refine⟨fun h0=>(by rw[hr]at h0;cases h0),fun j hj=>?_⟩
 rw[hr]at hj
 obtain rfl:j=i:=by simpa using hj
 have wW:j∈Region.ready .any ops listed:=by rw[hr];simp
 have eV:j<listed.size:=by
  have:=(mem_ready.1 wW).1
  rcases Nat.lt_or_ge j listed.size with h'|h'
  ·exact h'
  ·simp[Array.getElem?_eq_none h']at this
 unfold wpOpIn
 simp only[hi]
 rw[if_pos (by simp[Region.wanted,hg])]
 refine h a w _ _ ha hI _ _ (fun a' fB O' w' h1 h2 h3=>?_) fun c w' hx hI=>⟨ρ,[],D,ha,hI,hp.pan c ρ hx⟩
 have pJ: ∀(tl:List Nat) (Z:List Item),(j∈tl∨Sub Z O')→(tl.any fun b=>(listed.setIfInBounds j true).getD b false)=true∨Inv base Z w':=fun tl Z h3=>by
  rcases h3 with h4|h4
  ·refine .inl (List.any_eq_true.2 ⟨j,h4,?_⟩)
   simp[eV]
  ·exact .inr (h2.left.iN h4)
 have n6:gw base S tail S2 cn (listed.setIfInBounds j true) w':=⟨h2.kw,pJ _ _ h3.1,pJ _ _ h3.2.1⟩
 exact⟨n6,h3.2.2 Q a' w' M D hq hp h1 h2 (gG l_ wW) n6⟩
theorem MC.mono {o:Oper} {K':Env→List Item→Prop} (h:MC X P r base n o ρ O K) (hk: ∀fB O',K fB O'→K' fB O'):MC X P r base n o ρ O K':=
 fun a w M ds ha hI next Qx dT hx=>h a w M ds ha hI next Qx (fun a' fB O' w' h1 h2 h3=>dT a' fB O' w' h1 h2 (hk _ _ h3)) hx
theorem fS {l:List (Nat×Nat)} {i:Nat} {o:Oper} (hi:ops[i]? =some o) (hg:o.guard=none)
  (h:MC X P r base n o ρ O (fun fB O'=>Sub S O'∧DO X P r base n ops S tail [] cn l K fB O')):DO X P r base n ops S tail [] cn ((i,1)::l) K ρ O:=fun hs jO hl listed hb=>by
 simp only[h_,Bool.and_eq_true,beq_iff_eq]at hb
 refine wg i hi hg hb.1 (h.mono fun fB O' h3=>⟨.inr h3.1,.inr (bn (List.nil_sublist _)),h3.2 hs jO (fun q hq=>hl q (List.mem_cons_of_mem _ hq)) _ hb.2⟩)
theorem qp {l:List (Nat×Nat)} {i:Nat} {o:Oper} (hi:ops[i]? =some o) (hg:o.guard=none)
  (h:MC X P r base n o ρ O (fun fB O'=>DO X P r base n ops S tail S2 cn l K fB O')):DO X P r base n ops S tail S2 cn ((i,2)::l) K ρ O:=fun hs jO hl listed hb=>by
 simp only[h_,Bool.and_eq_true,beq_iff_eq]at hb
 refine wg i hi hg hb.1 (h.mono fun fB O' h3=>⟨.inl ((hl (i,2) (by simp)).1.1 F),.inl ((hl (i,2) (by simp)).2.1 (.inl F)),h3 hs jO (fun q hq=>hl q (List.mem_cons_of_mem _ hq)) _ hb.2⟩)
theorem dA {d:Nat} {t:TypeId} {p:String} {af:Array Edge} {g:Option (Nat×Bool)} {f:FuncId} {fn:Func} {tm:Value} {args:List Operand} {ws:Array TypeId} {vs:List Value} {R:Value→List Item→Prop} {Z:Prop} (he:Enters P f fn)
  (hc:cB P base tm f vs O R Z) (ha:E_ ρ args=vs) (hz:Z→X [{v:=tm,recovered:=false}]) (h: ∀v O',R v O'→K (mS ρ d v) O') (hn:Nat.blt d n=true:=by rfl):
  MC X P r base n ⟨some d,.call ⟨.value (.func f),args.toArray,ws⟩,t,p,af,g⟩ ρ O K:=by
 subst ha
 intro a w M ds ha hi next Qx dT hx
 have qU: ¬fn.name= "runtime.NumGoroutine" :=by simpa using he.2.1
 obtain⟨bd,G5⟩:=Option.isSome_iff_exists.1 he.2.2
 have hr:(execOp a.eval ⟨some d,.call ⟨.value (.func f),args.toArray,ws⟩,t,p,af,g⟩).run P w=.ok (.enter f (E_ ρ args).toArray) w:=by
  rw[ha.eval,qg]
  simp[jq,ev,Deferred.ofValue,invoke,callFunc,he.1,qU,G5]
 refine jX (by intro c e;cases e) ?_
 rw[hr,Oper.uponIn_enter]
 refine⟨fun e=>by simp[Fr,Fence.wide]at e,kZ (Calls.mono (hc w M hi) ?_)⟩
 rintro e w' (⟨v,O',rfl,l6,hR⟩|⟨rfl,l6,hZ⟩)
 ·exact dT _ _ _ _ (ha.put hn v) l6 (h v O' hR)
 ·exact hx _ _ (hz hZ) l6
theorem rp {dst:Option Nat} {t:TypeId} {p:String} {af:Array Edge} {g:Option (Nat×Bool)} {x:Operand} {T:TypeId} {u:Value} (hx:ev ρ x=.iface T u) (h:X [{v:=.iface T u,recovered:=false}]):MC X P r base n ⟨dst,.panic x,t,p,af,g⟩ ρ O K:=by
 intro a w M ds ha hi next Qx dT hq
 refine jX (by intro c e;cases e) ?_
 have hr:(execOp a.eval ⟨dst,.panic x,t,p,af,g⟩).run P w=.halt (.panic (.iface T u)) w:=by
  rw[ha.eval];simp[execOp,hx,Instr.panic]
 rw[hr,Oper.uponIn_panic]
 exact hq _ _ h (hi.iN ⟨M,List.Perm.refl _,List.sublist_append_right O M⟩)
theorem mv {dst:Option Nat} {t:TypeId} {p:String} {af:Array Edge} {g:Option (Nat×Bool)} {x:Operand} {T:TypeId} {fs:Array Field} {v:Value} (hu:P.underlying T=some (.struct fs)) (hx:ev ρ x=v):QT P base ⟨dst,.makeInterface T x,t,p,af,g⟩ ρ O (.iface T v):=fun w _=>by
 simp[execOp,hx,Instr.makeInterface,aT hu]
theorem Tc {dst:Option Nat} {t:TypeId} {p:String} {af:Array Edge} {g:Option (Nat×Bool)} {x:Operand} {T:TypeId} {k:IntKind} {a:Int} (hx:ev ρ x=.int k a):QT P base ⟨dst,.unOp .neg T x,t,p,af,g⟩ ρ O (.int k (k.wrap (-a))):=fun w _=>by
 simp[execOp,hx,Op.unary,Op.intArith]
theorem Ia (i:Nat) {t:TypeId} {p:String} {af:Array Edge} {g:Option (Nat×Bool)} {x:Operand} {T E:TypeId} {b o m c lo fy:Nat} {cs:List Value} {z:Value} (hu:P.underlying T=some (.slice E)) (hi:ey P E z 1 fy) (hz:z.cells= #[z]) (VF:dS z=true)
  (hx:ev ρ x=.slice (zS (some ⟨b,o,none⟩) c lo 1) (m-lo) (c-lo)) (hlo:lo<m) (hm:m≤c) (hO:O[i]? =some (am (some ⟨b,o,none⟩) c E 1 cs)) (h:K ρ (O.set i (am (some ⟨b,o,none⟩) c E 1 (cs.take lo)))):
  LT P r base n ⟨none,.call ⟨.builtin .clear,#[x],#[T]⟩,t,p,af,g⟩ ρ O K:=by
 intro a w M ds ha hI next Qx dT
 obtain⟨_,full,hb,h1,h2,h3⟩:=hI.row (kX hO)
 obtain⟨fl,rfl⟩: ∃fl:List Value,full=fl.toArray:=⟨full.toList,by simp⟩
 simp only[Nat.mul_one,List.size_toArray]at h1 h2
 have hs:zS (some ⟨b,o,none⟩) c lo 1=some ⟨b,o+lo,none⟩:=by
  unfold zS;rw[if_neg (by omega),Option.map_some,Nat.mul_one,o_]
 have ZO:(Builtin.zeroCells z.cells (m-lo)).toList=List.replicate (m-lo) z:=by
  have:=o9 z (m-lo)
  rw[hz];simp only[Builtin.zeroCells]
  simpa using congrArg Array.toList this
 have G9:=jp (P:=P) (b:=b) (o:=o+lo) (T:=E) (List.replicate (m-lo) z) fl 0 w hb (by simp;omega) (by simp[VF])
 have hr:(execOp a.eval ⟨none,.call ⟨.builtin .clear,#[x],#[T]⟩,t,p,af,g⟩).run P w=.ok (.value (.tuple #[])) (im w b (.cells (dK fl (o+lo) (List.replicate (m-lo) z)).toArray E (0,0))):=by
  rw[ha.eval]
  obtain⟨k,hk⟩: ∃k,m-lo=k+1:=⟨m-lo-1,by omega⟩
  rw[hk]at ZO G9 hx⊢
  simp only[Nat.add_zero]at G9
  simp[execOp,resolve,hx,hs,invoke,builtin,Builtin.clear_,aT hu,fq hi,ZO,G9]
 refine jX (by intro c e;cases e) ?_
 rw[hr]
 refine dT _ _ _ _ ha ?_ h
 rw[←mW hO]
 refine hI.setRow (kX hO) (by simp;omega) (by simp[f_];omega) fun j hj=>?_
 have qj:j<lo∧j<cs.length:=by simp at hj;omega
 have:=h3 j qj.2
 simp only[List.getElem?_toArray]at this⊢
 rw[kW _ _ _ _ (by simp;omega),if_neg (by omega),this]
 simp
def UX (P:Program) (base:World) (fn:Func) (tm:Value) (R:Value→List Item→Prop) (Z:Prop):jk
 | .normal,ρ,O=>pD P base fn ρ O R
 | .ret,ρ,O=>pD P base fn ρ O R
 | .panic c,_,_=>c=[{v:=tm,recovered:=false}]∧Z
 |_,_,_=>False
theorem pU {fn:Func} {tmps:Array Value} {M O':List Item} {c:List PanicEntry} {Rx:Ending→World→Prop} (h: ∀w,Inv base (O'++M) w→Rx (.panicked c) w):
  ∀(D:List Nat) (w:World),Inv base (O'++(mI D++M)) w→LeavesInM Fence.wide 0 P fn tmps Rx (mD D) (.panicking c) w
 | [],w,hI=>h w hI
 |b::D,w,hI=>by
  have l6:Inv base (O'++sY b::(mI D++M)) w:=hI
  have hb:w.heap[b]? =some (.deferred (some [])):=l6.holds (sY b) (by simp)
  refine⟨by simp,.inl ⟨b,w.putObj b (.deferred none),F,run_takeDeferred hb,pU h D _ ?_⟩⟩
  have:=Inv.step (N:=[]) (w':=w.putObj b (.deferred none)) l6 F F F (by simp) (fun k _ hk=>World.putObj_heap_other (fun e=>hk (by simp[sY,cR,e]))) (by simp) (by simp) (by simp)
  simpa using this
theorem cJ {f:FuncId} {fn:Func} {tm:Value} {c:Code} {args:List Value} {R:Value→List Item→Prop} {Z:Prop} (hf:P.funcs[f]? =some fn) (hb:fn.body=some c) (hn:fn.ntmps=n) (hl:Nat.ble args.length n=true)
  (h:T P none base n c (UX P base fn tm R Z) (entry args) O):cB P base tm f args O R Z:=by
 have hl:=Nat.le_of_ble_eq_true hl
 intro w M hI
 rw[←callsIn_wide (n:=0)]
 refine callsIn_of_wp_marks hf hb trivial (wpIn_mono (h _ w M [] trivial ⟨?_,?_,F⟩ hI) ?_)
 ·intro t
  show(args.toArray++Array.replicate (fn.ntmps-args.toArray.size) undef).getD t undef=args.getD t undef
  rw[Array.getD_eq_getD_getElem?,List.getD_eq_getElem?_getD]
  by_cases h:t<args.length
  ·rw[Array.getElem?_append_left (by simpa using h)];simp
  ·rw[Array.getElem?_append_right (by simpa using h)]
   have:args[t]? =none:=by simp;omega
   rw[this,Array.getElem?_replicate]
   split<;>rfl
 ·simp;omega
 ·have key: ∀(a':Act) (w':World) (fB:Env) (O':List Item) (D:List Nat),Ag n (mD D) a' fB→Inv base (O'++(mI D++M)) w'→pD P base fn fB O' R→
    LeavesInM Fence.wide 0 P fn a'.tmps (fun e KG=>(∃v O',e=.returned v∧Inv base (O'++M) KG∧R v O')∨(e=.panicked [{v:=tm,recovered:=false}]∧Inv base M KG∧Z)) a'.defers .returning w':=by
   intro a' w' fB O' D h1 h2 h3
   obtain⟨v,wh,wm,hR,hr⟩:=h3.ex
   rw[h1.defers]
   exact mX (fun w hI=>⟨v,hr w a'.tmps hI.left h1.tmp,.inl ⟨v,wh,F,hI.iN wm.qR,hR⟩⟩) D w' h2
  rintro e a' w' ⟨fB,O',D,h1,h2,h3⟩
  cases e with
  |normal=>exact key a' w' fB O' D h1 h2 h3
  |ret=>exact key a' w' fB O' D h1 h2 h3
  |panic ch=>
   obtain⟨rfl,hz⟩:=h3
   show LeavesInM Fence.wide 0 P fn a'.tmps _ a'.defers _ w'
   rw[h1.defers]
   exact pU (O':=O') (fun w hI=>.inr ⟨F,hI.iN ⟨M,List.Perm.refl _,List.sublist_append_right O' M⟩,hz⟩) D w' h2
  |_=>exact h3.elim
end
end Go.Lx

namespace Go.Lx
open Go.RowKit
structure Lf where
 op:Nat
 d:bU
 fo:List Nat
 la:Bool
instance:Inhabited Lf:=⟨⟨0,zv,[],false⟩⟩
abbrev Ob:=Nat×Nat
structure Cf where
 k:Int
 s:Nat
 o:List Ob
deriving DecidableEq
def qt (o:List Ob):List Int:=o.flatMap fun p=>[(p.1:Int),(p.2:Int)]
def Cf.nums (c:Cf):List Int:=c.k::(c.s:Int)::qt c.o
def Cf.key (c:Cf):Key:=gi c.nums
structure St where
 bh:List Nat
 cf:List Cf
def ui (x y:Key):Bool:=decide (x≤y)
def St.key (s:St):Key:=gi (s.bh.map fun y:Nat=>(y:Int))++((s.cf.map Cf.key).mergeSort ui).flatMap (fun k=>124::k)
theorem Et: ∀ {o p:List Ob},qt o=qt p→o=p
 | [],[],_=>rfl
 | [],(a,b)::p,h=>by simp[qt]at h
 |(a,b)::o,[],h=>by simp[qt]at h
 |(a,b)::o,(c,d)::p,h=>by
  simp only[qt,List.flatMap_cons,List.cons_append,List.nil_append,List.cons.injEq]at h
  rw[Et (o:=o) (p:=p) h.2.2,show a=c by omega,show b=d by omega]
theorem Jp {a b:Cf} (h:a.nums=b.nums):a=b:=by
 obtain⟨k,s,o⟩:=a
 obtain⟨k2,s2,o2⟩:=b
 simp only[Cf.nums,List.cons.injEq]at h
 obtain⟨h1,h2,h3⟩:=h
 rw[h1,show s=s2 by omega,Et h3]
theorem IA (o:List Ob) (p:Ob):qt (o++[p])=qt o++[(p.1:Int),(p.2:Int)]:=by simp[qt]
theorem D7 (o:List Ob):(qt o).length=o.length*2:=by
 induction o with
 |nil=>rfl
 |cons p o ih=>simp only[qt,List.flatMap_cons,List.length_append,List.length_cons,List.length_nil]at ih⊢;omega
section
variable (ls:List Lf)
abbrev lf (k:Nat):Lf:=ls.getD k default
def rv (o:List Ob) (x:Ob):List Ob:=if cF (lf ls x.1).d x.2=true then o else o++[x]
mutual
def fg:Nat→List Nat→Nat→List Ob→List Cf
 |0,_,_,_=>[]
 |f+1,bh,k,o=>
  if(lf ls k).op=9 then fG f bh k (rv ls o (k,(lf ls k).d.start.toNat))
  else if(lf ls k).op=10 then(if cF (lf ls k).d (bh.getD k 0)=true then fG f bh k o else[])
  else⟨(k:Int),(lf ls k).d.start.toNat,o⟩::(if cF (lf ls k).d (lf ls k).d.start.toNat=true then fG f bh k o else[])
def fG:Nat→List Nat→Nat→List Ob→List Cf
 |0,_,_,_=>[]
 |f+1,bh,k,o=>((lf ls k).fo.flatMap fun j=>fg f bh j o)++(if(lf ls k).la=true then[⟨-1,0,o⟩]else[])
end
def lq (o:List Ob) (x:Nat):List Ob:=o.foldl (fun o p=>rv ls o (p.1,dY (lf ls p.1).d p.2 x)) []
def iv (bh:List Nat) (x:Nat) (c:Cf):List Cf:=
 if c.k<0 then[]else
  ⟨c.k,dY (lf ls c.k.toNat).d c.s x,lq ls c.o x⟩::(if cF (lf ls c.k.toNat).d (dY (lf ls c.k.toNat).d c.s x)=true then fG ls (2*ls.length) bh c.k.toNat (lq ls c.o x)else[])
def ky (bh:List Nat) (x:Nat):List Nat:=(List.range ls.length).map fun k=>if(lf ls k).op=10 then dY (lf ls k).d (bh.getD k 0) x else 0
def jU (first:List Nat):St:=⟨ls.map fun l=>l.d.start.toNat,(first.flatMap fun k=>fg ls (2*ls.length) (ls.map fun l=>l.d.start.toNat) k []).foldl add []⟩
def li (s:St) (x:Nat):St:=⟨ky ls s.bh x,(s.cf.flatMap (iv ls (ky ls s.bh x) x)).foldl add []⟩
def ql (s:St):Bool:=s.cf.any fun c=>decide (c.k<0)&&c.o.isEmpty
structure gN (vs:Nat):Prop where
 len:ls.length≤12
 val: ∀l∈ls,Valid l.d
 vars: ∀l∈ls,l.d.vars=(vs:Int)
 op: ∀l∈ls,l.op=0∨l.op=9∨l.op=10
 fo: ∀k,k<ls.length→ ∀j∈(lf ls k).fo,k<j∧j<ls.length
 fol: ∀l∈ls,l.fo.length≤1000000
def eB (k:Nat) (o:List Ob):Prop:=o.Pairwise (fun p q=>p.1<q.1)∧ ∀p∈o,p.1<k∧p.2<(lf ls p.1).d.next.length
def gW (c:Cf):Prop:=(c.k= -1∧c.s=0∧eB ls ls.length c.o)∨ ∃k:Nat,c.k=(k:Int)∧k<ls.length∧c.s<(lf ls k).d.next.length∧eB ls k c.o
structure nG (bh:List Nat):Prop where
 len:bh.length=ls.length
 lt: ∀k,k<ls.length→bh.getD k 0<(lf ls k).d.next.length
structure jw (s:St):Prop where
 bh:nG ls s.bh
 nd:s.cf.Nodup
 cf: ∀c∈s.cf,gW ls c
def oC (K:Nat):Prop:= ∀l:List Cf,l.Nodup→(∀c∈l,gW ls c)→l.length≤K
variable {ls}
theorem iU {k:Nat} (h:k<ls.length):lf ls k∈ls:=by
 unfold lf;rw[List.getD_eq_getElem?_getD,List.getElem?_eq_getElem h];exact List.getElem_mem h
theorem vy {k:Nat} (h:k<ls.length):lf ls k=ls[k]:=by
 unfold lf;rw[List.getD_eq_getElem?_getD,List.getElem?_eq_getElem h];rfl
theorem gN.iI {vs:Nat} (h:gN ls vs) {k:Nat} (hk:k<ls.length):Valid (lf ls k).d:=h.val _ (iU hk)
theorem eB.nil {k:Nat}:eB ls k []:=⟨List.Pairwise.nil,fun p hp=>by simp at hp⟩
theorem eB.mono {k m:Nat} {o:List Ob} (h:eB ls k o) (hm:k≤m):eB ls m o:=⟨h.1,fun p hp=>⟨by have:=(h.2 p hp).1;omega,(h.2 p hp).2⟩⟩
theorem QN: ∀ {o:List Ob} {k:Nat},o.Pairwise (fun p q=>p.1<q.1)→(∀p∈o,p.1<k)→o.length≤k:=fun {o k} h1 h2=>by
 have h3:(o.map Prod.fst).Nodup:=by
  rw[List.nodup_iff_pairwise_ne]
  exact List.pairwise_map.2 (h1.imp fun h=>Nat.ne_of_lt h)
 have:=dE h3 (n:=k) fun x hx=>by obtain⟨p,hp,rfl⟩:=List.mem_map.1 hx;exact h2 p hp
 simpa using this
theorem eB.len {k:Nat} {o:List Ob} (h:eB ls k o):o.length≤k:=QN h.1 fun p hp=>(h.2 p hp).1
theorem sA {k:Nat} {o:List Ob} {x:Ob} (h:eB ls k o) (hk:k≤x.1) (hx:x.2<(lf ls x.1).d.next.length):eB ls (x.1+1) (rv ls o x):=by
 unfold rv
 split
 ·exact h.mono (by omega)
 ·refine⟨List.pairwise_append.2 ⟨h.1,List.pairwise_singleton _ _,fun p hp q hq=>?_⟩,fun p hp=>?_⟩
  ·rw[List.mem_singleton.1 hq];exact Nat.lt_of_lt_of_le (h.2 p hp).1 hk
  ·rcases List.mem_append.1 hp with hp|hp
   ·exact⟨by have:=(h.2 p hp).1;omega,(h.2 p hp).2⟩
   ·rw[List.mem_singleton.1 hp];exact⟨by omega,hx⟩
theorem sB {vs:Nat} (hG:gN ls vs) {x:Nat} (hx:x<2^vs): ∀ {o o1:List Ob} {m k:Nat},k≤ls.length→eB ls m o1→o.Pairwise (fun p q=>p.1<q.1)→(∀p∈o,m≤p.1∧p.1<k∧p.2<(lf ls p.1).d.next.length)→m≤k→eB ls k (o.foldl (fun o p=>rv ls o (p.1,dY (lf ls p.1).d p.2 x)) o1)
 | [],o1,m,k,_,h1,_,_,hm=>h1.mono hm
 |p::o,o1,m,k,hk,h1,h2,h3,hm=>by
  rw[List.foldl_cons]
  have hp:=h3 p (by simp)
  have AW:p.1<ls.length:=by omega
  have tx:dY (lf ls p.1).d p.2 x<(lf ls p.1).d.next.length:=((hG.iI AW).toVal.fF hp.2.2 (by rw[hG.vars _ (iU AW)];exact hx)).1
  have h4:=sA (x:=(p.1,dY (lf ls p.1).d p.2 x)) h1 hp.1 tx
  refine sB hG hx hk h4 (List.pairwise_cons.1 h2).2 (fun q hq=>?_) (by show p.1+1≤k;omega)
  have:=(List.pairwise_cons.1 h2).1 q hq
  have h5:=h3 q (by simp[hq])
  exact⟨by show p.1+1≤q.1;omega,h5.2⟩
theorem vA {vs:Nat} (hG:gN ls vs) {x:Nat} (hx:x<2^vs) {k:Nat} {o:List Ob} (hk:k≤ls.length) (h:eB ls k o):eB ls k (lq ls o x):=
 sB hG hx hk (m:=0) .nil h.1 (fun p hp=>⟨Nat.zero_le _,h.2 p hp⟩) (Nat.zero_le _)
mutual
theorem tD {vs:Nat} (hG:gN ls vs) {bh:List Nat}: ∀(f:Nat) {k:Nat} {o:List Ob},k<ls.length→eB ls k o→ ∀c∈fg ls f bh k o,gW ls c
 |0,k,o,_,_,c,hc=>by simp[fg]at hc
 |f+1,k,o,hk,ho,c,hc=>by
  have hs:=dl (hG.iI hk).toVal
  have Zn:eB ls (k+1) o:=ho.mono (by omega)
  unfold fg at hc
  split at hc
  ·exact lP hG f hk (sA (x:=(k,_)) ho (Nat.le_refl _) hs) c hc
  ·split at hc
   ·split at hc
    ·exact lP hG f hk Zn c hc
    ·simp at hc
   ·rcases List.mem_cons.1 hc with rfl|hc
    ·exact .inr ⟨k,F,hk,hs,ho⟩
    ·split at hc
     ·exact lP hG f hk Zn c hc
     ·simp at hc
theorem lP {vs:Nat} (hG:gN ls vs) {bh:List Nat}: ∀(f:Nat) {k:Nat} {o:List Ob},k<ls.length→eB ls (k+1) o→ ∀c∈fG ls f bh k o,gW ls c
 |0,k,o,_,_,c,hc=>by simp[fG]at hc
 |f+1,k,o,hk,ho,c,hc=>by
  unfold fG at hc
  rcases List.mem_append.1 hc with hc|hc
  ·obtain⟨j,hj,hc⟩:=List.mem_flatMap.1 hc
   have:=hG.fo k hk j hj
   exact tD hG f this.2 (ho.mono (by omega)) c hc
  ·split at hc
   ·rw[List.mem_singleton.1 hc];exact .inl ⟨F,F,ho.mono (by omega)⟩
   ·simp at hc
end
theorem nq: ∀(l ks:List Cf),ks.Nodup→(l.foldl add ks).Nodup
 | [],ks,h=>h
 |k::l,ks,h=>nq l _ (kT h)
theorem oT {vs:Nat} (hG:gN ls vs):nG ls (ls.map fun l=>l.d.start.toNat):=
 ⟨by simp,fun k hk=>by rw[List.getD_eq_getElem?_getD,List.getElem?_map,List.getElem?_eq_getElem hk];rw[vy hk];exact dl (hG.val _ (List.getElem_mem hk)).toVal⟩
theorem vz {vs:Nat} (hG:gN ls vs) {bh:List Nat} (hb:nG ls bh) {x:Nat} (hx:x<2^vs):nG ls (ky ls bh x):=
 ⟨by simp[ky],fun k hk=>by
  unfold ky
  rw[List.getD_eq_getElem?_getD,List.getElem?_map,List.getElem?_range hk]
  show(if _ then _ else _)<_
  split
  ·exact((hG.iI hk).toVal.fF (hb.lt k hk) (by rw[hG.vars _ (iU hk)];exact hx)).1
  ·exact(hG.iI hk).n0⟩
theorem vE {vs:Nat} (hG:gN ls vs) {first:List Nat} (hf: ∀k∈first,k<ls.length):jw ls (jU ls first):=by
 refine⟨oT hG,nq _ _ List.nodup_nil,fun c hc=>?_⟩
 rcases(dc _ _).1 hc with hc|hc
 ·simp at hc
 ·obtain⟨k,hk,hc⟩:=List.mem_flatMap.1 hc
  exact tD hG _ (hf k hk) .nil c hc
theorem C3 {vs:Nat} (hG:gN ls vs) {bh:List Nat} {x:Nat} (hx:x<2^vs) {c:Cf} (h:gW ls c): ∀d∈iv ls bh x c,gW ls d:=fun d hd=>by
 rcases h with⟨h1,_,_⟩|⟨k,h1,hk,hs,ho⟩
 ·unfold iv at hd;rw[if_pos (by omega)]at hd;simp at hd
 ·unfold iv at hd
  rw[if_neg (by omega),h1]at hd
  have qH:=vA hG hx (Nat.le_of_lt hk) ho
  have tx:dY (lf ls k).d c.s x<(lf ls k).d.next.length:=((hG.iI hk).toVal.fF hs (by rw[hG.vars _ (iU hk)];exact hx)).1
  rcases List.mem_cons.1 hd with rfl|hd
  ·exact .inr ⟨k,F,hk,tx,qH⟩
  ·split at hd
   ·exact lP hG _ hk (qH.mono (by omega)) d hd
   ·simp at hd
theorem pr {vs:Nat} (hG:gN ls vs) {s:St} (h:jw ls s) {x:Nat} (hx:x<2^vs):jw ls (li ls s x):=by
 refine⟨vz hG h.bh hx,nq _ _ List.nodup_nil,fun c hc=>?_⟩
 rcases(dc _ _).1 hc with hc|hc
 ·simp at hc
 ·obtain⟨y,hy,hc⟩:=List.mem_flatMap.1 hc
  exact C3 hG hx (h.cf y hy) c hc
theorem eB.num {vs:Nat} (hG:gN ls vs) {k:Nat} {o:List Ob} (hk:k≤ls.length) (h:eB ls k o): ∀n∈qt o,kI n:=fun n hn=>by
 obtain⟨p,hp,hn⟩:=List.mem_flatMap.1 hn
 have h1:=h.2 p hp
 have:=hG.len;have:=(hG.iI (show p.1<ls.length by omega)).n4
 simp only[List.mem_cons,List.not_mem_nil,or_false]at hn
 rcases hn with rfl|rfl<;>exact .inr ⟨by omega,by omega⟩
theorem gW.num {vs:Nat} (hG:gN ls vs) {c:Cf} (h:gW ls c): ∀n∈c.nums,kI n:=fun n hn=>by
 have:=hG.len
 unfold Cf.nums at hn
 rcases h with⟨h1,h2,h3⟩|⟨k,h1,hk,h2,h3⟩
 ·rw[h1,h2]at hn
  rcases List.mem_cons.1 hn with rfl|hn
  ·exact .inl F
  ·rcases List.mem_cons.1 hn with rfl|hn
   ·exact .inr ⟨by omega,by omega⟩
   ·exact h3.num hG (Nat.le_refl _) n hn
 ·have:=(hG.iI hk).n4
  rw[h1]at hn
  rcases List.mem_cons.1 hn with rfl|hn
  ·exact .inr ⟨by omega,by omega⟩
  ·rcases List.mem_cons.1 hn with rfl|hn
   ·exact .inr ⟨by omega,by omega⟩
   ·exact h3.num hG (Nat.le_of_lt hk) n hn
theorem gW.PW {vs:Nat} (hG:gN ls vs) {c:Cf} (h:gW ls c):c.o.length≤64:=by
 have:=hG.len
 rcases h with⟨_,_,h3⟩|⟨k,_,hk,_,h3⟩
 ·have:=h3.len;omega
 ·have:=h3.len;omega
theorem key_inj {vs:Nat} (hG:gN ls vs) {c d:Cf} (hc:gW ls c) (hd:gW ls d) (h:c.key=d.key):c=d:=
 Jp (vK (hc.num hG) (hd.num hG) h)
end
end Go.Lx


/- Contracts of functions; conditions: those each theorem names. -/
import Derived.Laws.StructEq
import Derived.Test.YtgdbfideeeegmaaGreatDoorRows
import Derived.Test.YtgdbfideeeegmaaGreatDoorCards
import Derived.Test.YtgdbfideeeegmaaGreatDoorTie
import Derived.ProofKit
import Derived.Lib.LaidTab
import Derived.Test.YtgdbfideeeegmaaGreatDoorA1
set_option linter.unusedSectionVars false
set_option linter.unusedSimpArgs false
set_option linter.unusedVariables false
set_option linter.unnecessarySimpa false
set_option maxHeartbeats 8000000
set_option maxRecDepth 20000
namespace Go.Lx
open Go.RowKit
structure Lf where
 op:Nat
 d:cV
 fo:List Nat
 la:Bool
instance:Inhabited Lf:=⟨⟨0,CG,[],false⟩⟩
abbrev Ob:=Nat×Nat
structure Cf where
 k:Int
 s:Nat
 o:List Ob
deriving DecidableEq
def sY (o:List Ob):List Int:=o.flatMap fun p=>[(p.1:Int),(p.2:Int)]
def Cf.nums (c:Cf):List Int:=c.k::(c.s:Int)::sY c.o
def Cf.key (c:Cf):Key:=iU c.nums
structure St where
 bh:List Nat
 cf:List Cf
def xj (x y:Key):Bool:=decide (x≤y)
def St.key (s:St):Key:=iU (s.bh.map fun y:Nat=>(y:Int))++((s.cf.map Cf.key).mergeSort xj).flatMap (fun k=>124::k)
theorem HR: ∀ {o p:List Ob},sY o=sY p→o=p
 | [],[],_=>rfl
 | [],(a,b)::p,h=>by simp[sY]at h
 |(a,b)::o,[],h=>by simp[sY]at h
 |(a,b)::o,(c,d)::p,h=>by
  simp only[sY,List.flatMap_cons,cF,du,List.cons.injEq]at h
  rw[HR (o:=o) (p:=p) h.2.2,show a=c by omega,show b=d by omega]
theorem NH {a b:Cf} (h:a.nums=b.nums):a=b:=by
 obtain⟨k,s,o⟩:=a
 obtain⟨k2,s2,o2⟩:=b
 simp only[Cf.nums,List.cons.injEq]at h
 obtain⟨h1,h2,h3⟩:=h
 rw[h1,show s=s2 by omega,HR h3]
theorem MW (o:List Ob) (p:Ob):sY (o++[p])=sY o++[(p.1:Int),(p.2:Int)]:=by simp[sY]
theorem Hy (o:List Ob):(sY o).length=o.length*2:=by
 induction o with
 |nil=>rfl
 |cons p o ih=>simp only[sY,List.flatMap_cons,aP,bG,dl]at ih⊢;omega
section
variable (ls:List Lf)
abbrev lf (k:Nat):Lf:=ls.getD k default
def nR (o:List Ob) (x:Ob):List Ob:=if dF (lf ls x.1).d x.2=true then o else o++[x]
mutual
def fw:Nat→List Nat→Nat→List Ob→List Cf
 |0,_,_,_=>[]
 |f+1,bh,k,o=>
  if(lf ls k).op=9 then fX f bh k (nR ls o (k,(lf ls k).d.start.toNat))
  else if(lf ls k).op=10 then(if dF (lf ls k).d (bh.getD k 0)=true then fX f bh k o else[])
  else⟨(k:Int),(lf ls k).d.start.toNat,o⟩::(if dF (lf ls k).d (lf ls k).d.start.toNat=true then fX f bh k o else[])
def fX:Nat→List Nat→Nat→List Ob→List Cf
 |0,_,_,_=>[]
 |f+1,bh,k,o=>((lf ls k).fo.flatMap fun j=>fw f bh j o)++(if(lf ls k).la=true then[⟨-1,0,o⟩]else[])
end
def lG (o:List Ob) (x:Nat):List Ob:=o.foldl (fun o p=>nR ls o (p.1,eS (lf ls p.1).d p.2 x)) []
def gZ (bh:List Nat) (x:Nat) (c:Cf):List Cf:=
 if c.k<0 then[]else
  ⟨c.k,eS (lf ls c.k.toNat).d c.s x,lG ls c.o x⟩::(if dF (lf ls c.k.toNat).d (eS (lf ls c.k.toNat).d c.s x)=true then fX ls (2*ls.length) bh c.k.toNat (lG ls c.o x)else[])
def iQ (bh:List Nat) (x:Nat):List Nat:=(List.range ls.length).map fun k=>if(lf ls k).op=10 then eS (lf ls k).d (bh.getD k 0) x else 0
def gW (first:List Nat):St:=⟨ls.map fun l=>l.d.start.toNat,(first.flatMap fun k=>fw ls (2*ls.length) (ls.map fun l=>l.d.start.toNat) k []).foldl add []⟩
def jj (s:St) (x:Nat):St:=⟨iQ ls s.bh x,(s.cf.flatMap (gZ ls (iQ ls s.bh x) x)).foldl add []⟩
def pR (s:St):Bool:=s.cf.any fun c=>decide (c.k<0)&&c.o.isEmpty
structure iB (vs:Nat):Prop where
 len:ls.length≤12
 val: ∀l∈ls,Valid l.d
 vars: ∀l∈ls,l.d.vars=(vs:Int)
 op: ∀l∈ls,l.op=0∨l.op=9∨l.op=10
 fo: ∀k,k<ls.length→ ∀j∈(lf ls k).fo,k<j∧j<ls.length
 fol: ∀l∈ls,l.fo.length≤1000000
def gd (k:Nat) (o:List Ob):Prop:=o.Pairwise (fun p q=>p.1<q.1)∧ ∀p∈o,p.1<k∧p.2<(lf ls p.1).d.next.length
def jt (c:Cf):Prop:=(c.k= -1∧c.s=0∧gd ls ls.length c.o)∨ ∃k:Nat,c.k=(k:Int)∧k<ls.length∧c.s<(lf ls k).d.next.length∧gd ls k c.o
structure qe (bh:List Nat):Prop where
 len:bh.length=ls.length
 lt: ∀k,k<ls.length→bh.getD k 0<(lf ls k).d.next.length
structure kE (s:St):Prop where
 bh:qe ls s.bh
 nd:s.cf.Nodup
 cf: ∀c∈s.cf,jt ls c
def qR (K:Nat):Prop:= ∀l:List Cf,l.Nodup→(∀c∈l,jt ls c)→l.length≤K
variable {ls}
theorem kq {k:Nat} (h:k<ls.length):lf ls k∈ls:=by
 unfold lf;rw[az,ap h];exact aN h
theorem vm {k:Nat} (h:k<ls.length):lf ls k=ls[k]:=by
 unfold lf;rw[az,ap h];rfl
theorem iB.kp {vs:Nat} (h:iB ls vs) {k:Nat} (hk:k<ls.length):Valid (lf ls k).d:=h.val _ (kq hk)
theorem gd.nil {k:Nat}:gd ls k []:=⟨List.Pairwise.nil,fun p hp=>by simp at hp⟩
theorem gd.mono {k m:Nat} {o:List Ob} (h:gd ls k o) (hm:k≤m):gd ls m o:=⟨h.1,fun p hp=>⟨by have:=(h.2 p hp).1;omega,(h.2 p hp).2⟩⟩
theorem Wm: ∀ {o:List Ob} {k:Nat},o.Pairwise (fun p q=>p.1<q.1)→(∀p∈o,p.1<k)→o.length≤k:=fun {o k} h1 h2=>by
 have h3:(o.map Prod.fst).Nodup:=by
  rw[List.nodup_iff_pairwise_ne]
  exact List.pairwise_map.2 (h1.imp fun h=>Nat.ne_of_lt h)
 have:=eX h3 (n:=k) fun x hx=>by obtain⟨p,hp,rfl⟩:=List.mem_map.1 hx;exact h2 p hp
 simpa using this
theorem gd.len {k:Nat} {o:List Ob} (h:gd ls k o):o.length≤k:=Wm h.1 fun p hp=>(h.2 p hp).1
theorem vl {k:Nat} {o:List Ob} {x:Ob} (h:gd ls k o) (hk:k≤x.1) (hx:x.2<(lf ls x.1).d.next.length):gd ls (x.1+1) (nR ls o x):=by
 unfold nR
 split
 ·exact h.mono (by omega)
 ·refine⟨List.pairwise_append.2 ⟨h.1,List.pairwise_singleton _ _,fun p hp q hq=>?_⟩,fun p hp=>?_⟩
  ·rw[List.mem_singleton.1 hq];exact eG (h.2 p hp).1 hk
  ·rcases List.mem_append.1 hp with hp|hp
   ·exact⟨by have:=(h.2 p hp).1;omega,(h.2 p hp).2⟩
   ·rw[List.mem_singleton.1 hp];exact⟨by omega,hx⟩
theorem vn {vs:Nat} (hG:iB ls vs) {x:Nat} (hx:x<2^vs): ∀ {o o1:List Ob} {m k:Nat},k≤ls.length→gd ls m o1→o.Pairwise (fun p q=>p.1<q.1)→(∀p∈o,m≤p.1∧p.1<k∧p.2<(lf ls p.1).d.next.length)→m≤k→gd ls k (o.foldl (fun o p=>nR ls o (p.1,eS (lf ls p.1).d p.2 x)) o1)
 | [],o1,m,k,_,h1,_,_,hm=>h1.mono hm
 |p::o,o1,m,k,hk,h1,h2,h3,hm=>by
  rw[cP]
  have hp:=h3 p (by simp)
  have DZ:p.1<ls.length:=by omega
  have uv:eS (lf ls p.1).d p.2 x<(lf ls p.1).d.next.length:=((hG.kp DZ).toVal.gT hp.2.2 (by rw[hG.vars _ (kq DZ)];exact hx)).1
  have h4:=vl (x:=(p.1,eS (lf ls p.1).d p.2 x)) h1 hp.1 uv
  refine vn hG hx hk h4 (List.pairwise_cons.1 h2).2 (fun q hq=>?_) (by show p.1+1≤k;omega)
  have:=(List.pairwise_cons.1 h2).1 q hq
  have h5:=h3 q (by simp[hq])
  exact⟨by show p.1+1≤q.1;omega,h5.2⟩
theorem yx {vs:Nat} (hG:iB ls vs) {x:Nat} (hx:x<2^vs) {k:Nat} {o:List Ob} (hk:k≤ls.length) (h:gd ls k o):gd ls k (lG ls o x):=
 vn hG hx hk (m:=0) .nil h.1 (fun p hp=>⟨bl _,h.2 p hp⟩) (bl _)
mutual
theorem wy {vs:Nat} (hG:iB ls vs) {bh:List Nat}: ∀(f:Nat) {k:Nat} {o:List Ob},k<ls.length→gd ls k o→ ∀c∈fw ls f bh k o,jt ls c
 |0,k,o,_,_,c,hc=>by simp[fw]at hc
 |f+1,k,o,hk,ho,c,hc=>by
  have hs:=ei (hG.kp hk).toVal
  have hko:gd ls (k+1) o:=ho.mono (by omega)
  unfold fw at hc
  split at hc
  ·exact ox hG f hk (vl (x:=(k,_)) ho (aS _) hs) c hc
  ·split at hc
   ·split at hc
    ·exact ox hG f hk hko c hc
    ·simp at hc
   ·rcases List.mem_cons.1 hc with rfl|hc
    ·exact .inr ⟨k,F,hk,hs,ho⟩
    ·split at hc
     ·exact ox hG f hk hko c hc
     ·simp at hc
theorem ox {vs:Nat} (hG:iB ls vs) {bh:List Nat}: ∀(f:Nat) {k:Nat} {o:List Ob},k<ls.length→gd ls (k+1) o→ ∀c∈fX ls f bh k o,jt ls c
 |0,k,o,_,_,c,hc=>by simp[fX]at hc
 |f+1,k,o,hk,ho,c,hc=>by
  unfold fX at hc
  rcases List.mem_append.1 hc with hc|hc
  ·obtain⟨j,hj,hc⟩:=List.mem_flatMap.1 hc
   have:=hG.fo k hk j hj
   exact wy hG f this.2 (ho.mono (by omega)) c hc
  ·split at hc
   ·rw[List.mem_singleton.1 hc];exact .inl ⟨F,F,ho.mono (by omega)⟩
   ·simp at hc
end
theorem ni: ∀(l ks:List Cf),ks.Nodup→(l.foldl add ks).Nodup
 | [],ks,h=>h
 |k::l,ks,h=>ni l _ (nr h)
theorem re {vs:Nat} (hG:iB ls vs):qe ls (ls.map fun l=>l.d.start.toNat):=
 ⟨by simp,fun k hk=>by rw[az,bi,ap hk];rw[vm hk];exact ei (hG.val _ (aN hk)).toVal⟩
theorem yw {vs:Nat} (hG:iB ls vs) {bh:List Nat} (hb:qe ls bh) {x:Nat} (hx:x<2^vs):qe ls (iQ ls bh x):=
 ⟨by simp[iQ],fun k hk=>by
  unfold iQ
  rw[az,bi,List.getElem?_range hk]
  show(if _ then _ else _)<_
  split
  ·exact((hG.kp hk).toVal.gT (hb.lt k hk) (by rw[hG.vars _ (kq hk)];exact hx)).1
  ·exact(hG.kp hk).n0⟩
theorem pV {vs:Nat} (hG:iB ls vs) {first:List Nat} (hf: ∀k∈first,k<ls.length):kE ls (gW ls first):=by
 refine⟨re hG,ni _ _ List.nodup_nil,fun c hc=>?_⟩
 rcases(d_ _ _).1 hc with hc|hc
 ·simp at hc
 ·obtain⟨k,hk,hc⟩:=List.mem_flatMap.1 hc
  exact wy hG _ (hf k hk) .nil c hc
theorem yI {vs:Nat} (hG:iB ls vs) {bh:List Nat} {x:Nat} (hx:x<2^vs) {c:Cf} (h:jt ls c): ∀d∈gZ ls bh x c,jt ls d:=fun d hd=>by
 rcases h with⟨h1,_,_⟩|⟨k,h1,hk,hs,ho⟩
 ·unfold gZ at hd;rw[aJ (by omega)]at hd;simp at hd
 ·unfold gZ at hd
  rw[aA (by omega),h1]at hd
  have tD:=yx hG hx (Nat.le_of_lt hk) ho
  have uv:eS (lf ls k).d c.s x<(lf ls k).d.next.length:=((hG.kp hk).toVal.gT hs (by rw[hG.vars _ (kq hk)];exact hx)).1
  rcases List.mem_cons.1 hd with rfl|hd
  ·exact .inr ⟨k,F,hk,uv,tD⟩
  ·split at hd
   ·exact ox hG _ hk (tD.mono (by omega)) d hd
   ·simp at hd
theorem pg {vs:Nat} (hG:iB ls vs) {s:St} (h:kE ls s) {x:Nat} (hx:x<2^vs):kE ls (jj ls s x):=by
 refine⟨yw hG h.bh hx,ni _ _ List.nodup_nil,fun c hc=>?_⟩
 rcases(d_ _ _).1 hc with hc|hc
 ·simp at hc
 ·obtain⟨y,hy,hc⟩:=List.mem_flatMap.1 hc
  exact yI hG hx (h.cf y hy) c hc
theorem gd.num {vs:Nat} (hG:iB ls vs) {k:Nat} {o:List Ob} (hk:k≤ls.length) (h:gd ls k o): ∀n∈sY o,ng n:=fun n hn=>by
 obtain⟨p,hp,hn⟩:=List.mem_flatMap.1 hn
 have h1:=h.2 p hp
 have:=hG.len;have:=(hG.kp (show p.1<ls.length by omega)).n4
 simp only[dm,List.not_mem_nil,or_false]at hn
 rcases hn with rfl|rfl<;>exact .inr ⟨by omega,by omega⟩
theorem jt.num {vs:Nat} (hG:iB ls vs) {c:Cf} (h:jt ls c): ∀n∈c.nums,ng n:=fun n hn=>by
 have:=hG.len
 unfold Cf.nums at hn
 rcases h with⟨h1,h2,h3⟩|⟨k,h1,hk,h2,h3⟩
 ·rw[h1,h2]at hn
  rcases List.mem_cons.1 hn with rfl|hn
  ·exact .inl F
  ·rcases List.mem_cons.1 hn with rfl|hn
   ·exact .inr ⟨by omega,by omega⟩
   ·exact h3.num hG (aS _) n hn
 ·have:=(hG.kp hk).n4
  rw[h1]at hn
  rcases List.mem_cons.1 hn with rfl|hn
  ·exact .inr ⟨by omega,by omega⟩
  ·rcases List.mem_cons.1 hn with rfl|hn
   ·exact .inr ⟨by omega,by omega⟩
   ·exact h3.num hG (Nat.le_of_lt hk) n hn
theorem jt.Vb {vs:Nat} (hG:iB ls vs) {c:Cf} (h:jt ls c):c.o.length≤64:=by
 have:=hG.len
 rcases h with⟨_,_,h3⟩|⟨k,_,hk,_,h3⟩
 ·have:=h3.len;omega
 ·have:=h3.len;omega
theorem key_inj {vs:Nat} (hG:iB ls vs) {c d:Cf} (hc:jt ls c) (hd:jt ls d) (h:c.key=d.key):c=d:=
 NH (yF (hc.num hG) (hd.num hG) h)
end
end Go.Lx

namespace Go.Lx
open Go.RowKit
section
variable {P:Program} {base:World} {O:List Item} {ρ:Env} {dst:Option Nat} {t:TypeId} {p:String} {af:Array Edge} {g:Option (Nat×Bool)}
theorem MX {x y:Operand} {T U:TypeId} {a b:List UInt8} (hx:ev ρ x=str a) (hy:ev ρ y=str b):QT P base ⟨dst,.binOp .eql T x y U,t,p,af,g⟩ ρ O (.bool (decide (a=b))):=fun w _=>by
 simp[execOp,hx,hy,eqGuard,binOp,str,Op.stringOp]
 by_cases e:a=b
 ·subst e;simp
 ·simp[e]
end
structure OB where
 b:Option Addr
 c:Nat
 o:List Ob
def OB.val (r:OB):Value:=.slice r.b r.o.length r.c
def fM (o:List Ob):List Value:=o.flatMap fun p=>[.int .i64 (p.1:Int),.int .i64 (p.2:Int)]
def OB.qt (T:TypeId) (r:OB):Item:=av r.b r.c T 2 (fM r.o)
def gl (T:TypeId) (p:List OB):List Item:=p.map (OB.qt T)
def mA (p:List OB) (r:OB):Prop:=r∈p∨r.o=[]
theorem j3 (o:List Ob):(fM o).length=o.length*2:=by
 induction o with
 |nil=>rfl
 |cons p o ih=>simp only[fM,List.flatMap_cons,aP,bG,dl]at ih⊢;omega
def AV (p:Ob):List Value:=[.int .i64 (p.1:Int),.int .i64 (p.2:Int)]
theorem nQ {o:List Ob}: ∀ {i:Nat} (hi:i<o.length) (j:Nat) (h:j<(AV o[i]).length),(fM o)[i*2+j]? =some (AV o[i])[j]:=by
 induction o with
 |nil=>intro i hi;simp at hi
 |cons p o ih=>
  intro i hi j hj
  show(AV p++fM o)[i*2+j]? =_
  cases i with
  |zero=>rw[Nat.zero_mul,Nat.zero_add,bE (show j<(AV p).length from hj)];exact ap hj
  |succ i=>
   have h2:(AV p).length=2:=rfl
   rw[bM (by rw[h2];omega),show(i+1)*2+j-(AV p).length=i*2+j by rw[h2];omega]
   exact ih (by simpa using hi) j hj
theorem wu (o:List Ob) (p:Ob):fM (o++[p])=fM o++[.int .i64 (p.1:Int),.int .i64 (p.2:Int)]:=by simp[fM]
structure CR where
 k:Int
 s:Nat
 r:OB
def CR.cf (c:CR):Cf:=⟨c.k,c.s,c.r.o⟩
def CR.cells (c:CR):List Value:=[.int .i64 c.k,.int .i64 (c.s:Int),.slice c.r.b c.r.o.length c.r.c]
def dz (l:List CR):List Value:=l.flatMap CR.cells
theorem pU (l:List CR):(dz l).length=l.length*3:=by
 induction l with
 |nil=>rfl
 |cons p l ih=>simp only[dz,List.flatMap_cons,aP,bG]at ih⊢;rw[ih];simp[CR.cells];omega
theorem sX {l:List CR}: ∀ {i:Nat} (hi:i<l.length) (j:Nat) (h:j<l[i].cells.length),(dz l)[i*3+j]? =some l[i].cells[j]:=by
 induction l with
 |nil=>intro i hi;simp at hi
 |cons p l ih=>
  intro i hi j hj
  show(p.cells++dz l)[i*3+j]? =_
  cases i with
  |zero=>rw[Nat.zero_mul,Nat.zero_add,bE (show j<p.cells.length from hj)];exact ap hj
  |succ i=>
   have h3:p.cells.length=3:=rfl
   rw[bM (by rw[h3];omega),show(i+1)*3+j-p.cells.length=i*3+j by rw[h3];omega]
   exact ih (by simpa using hi) j hj
theorem DW (l:List CR) (c:CR):dz (l++[c])=dz l++c.cells:=by simp[dz]
def zV (l:List CR) (c:CR):List CR:=if c.cf∈l.map CR.cf then l else l++[c]
theorem Hz (l:List CR) (c:CR):(zV l c).map CR.cf=add (l.map CR.cf) c.cf:=by
 unfold zV add;split<;>simp
theorem mA.sl {T:TypeId} {w base:World} {O:List Item} {p:List OB} {r:OB} (hI:Inv base O w) (hO: ∀it∈gl T p,it∈O) (h:mA p r):Sl w r.b (fM r.o):=by
 rcases h with h|h
 ·exact hI.gV (hO _ (List.mem_map.2 ⟨r,h,F⟩))
 ·rw[h];exact fun i hi=>absurd hi (by simp[fM])
theorem mA.mono {p q:List OB} {r:OB} (h:mA p r) (hq: ∀x∈p,x∈q):mA q r:=h.elim (fun h=>.inl (hq _ h)) .inr
structure LK where
 k:DK
 b:Option Addr
 c:Nat
instance:Inhabited LK:=⟨⟨⟨none,0,none,0,[]⟩,none,0⟩⟩
def k_ (l:Lf) (k:LK):List Value:=[.int .u8 (l.op:Int)]++dC l.d k.k++[.slice k.b l.fo.length k.c,.bool l.la]
def dp (ls:List Lf) (ks:List LK):List Value:=(ls.zip ks).flatMap fun p=>k_ p.1 p.2
abbrev lk (ks:List LK) (k:Nat):LK:=ks.getD k default
theorem yr: ∀ {ls:List Lf} {ks:List LK} {i:Nat} (hk:ks.length=ls.length) (hi:i<ls.length) (j:Nat) (h:j<(k_ (lf ls i) (lk ks i)).length),(dp ls ks)[i*7+j]? =some (k_ (lf ls i) (lk ks i))[j]:=by
 intro ls
 induction ls with
 |nil=>intro ks i _ hi;simp at hi
 |cons l ls ih=>
  intro ks i hk hi j hj
  cases ks with
  |nil=>simp at hk
  |cons k ks=>
   show(k_ l k++dp ls ks)[i*7+j]? =_
   cases i with
   |zero=>rw[Nat.zero_mul,Nat.zero_add,bE (show j<(k_ l k).length from hj)];exact ap hj
   |succ i=>
    have h7:(k_ l k).length=7:=rfl
    rw[bM (by rw[h7];omega),show(i+1)*7+j-(k_ l k).length=i*7+j by rw[h7];omega]
    exact ih (by simpa using hk) (by simpa using hi) j hj
theorem eg {ls:List Lf} {ks:List LK} (hk:ks.length=ls.length):(dp ls ks).length=ls.length*7:=by
 have: ∀(z:List (Lf×LK)),(z.flatMap fun p=>k_ p.1 p.2).length=z.length*7:=by
  intro z
  induction z with
  |nil=>rfl
  |cons p z ih=>rw[List.flatMap_cons,aP,ih,show(k_ p.1 p.2).length=7 from F,bG];omega
 unfold dp;rw[this,List.length_zip,hk,Nat.min_self]
structure lF (w:World) (ob:Nat) (lb:Option Addr) (lc:Nat) (cv fv:Value) (ls:List Lf) (ks:List LK):Prop where
 bx:Sl w (some ⟨ob,0,none⟩) [cv,.slice lb ls.length lc,fv]
 rw:Sl w lb (dp ls ks)
 kl:ks.length=ls.length
 dk: ∀k,k<ls.length→At w (lf ls k).d (lk ks k).k
 fo: ∀k,k<ls.length→Sl w (lk ks k).b (bW (lf ls k).fo)
theorem Inv.out {base w:World} {O:List Item} (hI:Inv base O w) {ob:Nat} {lb:Option Addr} {lc:Nat} {cv fv:Value} {ls:List Lf} {ks:List LK} (h:lF base ob lb lc cv fv ls ks):lF w ob lb lc cv fv ls ks:=
 ⟨hI.sl h.bx,hI.sl h.rw,h.kl,fun k hk=>hI.rI (h.dk k hk),fun k hk=>hI.sl (h.fo k hk)⟩
theorem D0 (T:TypeId) (p q:List OB):gl T (p++q)=gl T p++gl T q:=bj
structure lO (ls:List Lf) (l:List CR) (p:List OB):Prop where
 sZ: ∀y∈l,jt ls y.cf
 nd:(l.map CR.cf).Nodup
 M4: ∀y∈l,mA p y.r
theorem lO.mono {ls:List Lf} {l:List CR} {p q:List OB} (h:lO ls l p) (hq: ∀x∈p,x∈q):lO ls l q:=⟨h.sZ,h.nd,fun y hy=>(h.M4 y hy).mono hq⟩
theorem lO.len {ls:List Lf} {l:List CR} {p:List OB} (h:lO ls l p) {K:Nat} (hK:qR ls K):l.length≤K:=by
 have:=hK (l.map CR.cf) h.nd fun c hc=>by obtain⟨y,hy,rfl⟩:=List.mem_map.1 hc;exact h.sZ y hy
 simpa using this
theorem lO.add {ls:List Lf} {l:List CR} {p:List OB} (h:lO ls l p) {x:CR} (hx:jt ls x.cf) (hp:mA p x.r):lO ls (zV l x) p:=by
 have hm: ∀y∈zV l x,y∈l∨y=x:=fun y hy=>by
  unfold zV at hy;split at hy
  ·exact .inl hy
  ·simpa using hy
 refine⟨fun y hy=>(hm y hy).elim (h.sZ y) (fun e=>e▸hx),by rw[Hz];exact nr h.nd,fun y hy=>(hm y hy).elim (h.M4 y) (fun e=>e▸hp)⟩
theorem cj.post {P:Program} {base:World} {f:FuncId} {args:List Value} {O:List Item} {R R':Value→List Item→Prop} (h:cj P base f args O R) (hr: ∀v O',R v O'→ ∃O2,Sub O2 O'∧R' v O2):cj P base f args O R':=fun w M hI=>
 (h w M hI).mono fun e w' ⟨v,O',he,oH,hv⟩=>by
  obtain⟨O2,hs,h2⟩:=hr v O' hv
  exact⟨v,O2,he,oH.kN hs.sJ,h2⟩
theorem q_ (A B C X:List Item) (h:Sub (A++B) C):Sub ((A++X)++B) (C++X):=by
 obtain⟨l,h1,h2⟩:=h
 refine⟨l++X,?_,h2.append (aY _)⟩
 refine List.Perm.trans ?_ (h1.append_right X)
 rw[a6,a6]
 exact List.Perm.append_left A List.perm_append_comm
theorem ra (A B X:List Item):Sub ((A++B)++X) ((A++X)++B):=by
 refine⟨_,?_,aY _⟩
 rw[a6,a6]
 exact List.Perm.append_left A List.perm_append_comm
theorem JN: ∀ {l m:List Key},(∀k∈l,∀b∈k,b≠124)→(∀k∈m,∀b∈k,b≠124)→l.flatMap (fun k=>(124:UInt8)::k)=m.flatMap (fun k=>(124:UInt8)::k)→l=m:=by
 have split: ∀ {x y p q:Key},(∀b∈x,b≠124)→(∀b∈y,b≠124)→(∀b t,p=b::t→b=124)→(∀b t,q=b::t→b=124)→x++p=y++q→x=y∧p=q:=by
  intro x
  induction x with
  |nil=>
   intro y p q _ hy hp _ h
   cases y with
   |nil=>exact⟨F,h⟩
   |cons c y=>
    rw[du,cF]at h
    exact absurd (hp _ _ h) (hy c (by simp))
  |cons c x ih=>
   intro y p q hx hy hp hq h
   cases y with
   |nil=>
    rw[du,cF]at h
    exact absurd (hq _ _ h.symm) (hx c (by simp))
   |cons d y=>
    simp only[cF,List.cons.injEq]at h
    obtain⟨h1,h2⟩:=ih (fun b hb=>hx b (by simp[hb])) (fun b hb=>hy b (by simp[hb])) hp hq h.2
    exact⟨by rw[h.1,h1],h2⟩
 have hd: ∀(l:List Key) b t,l.flatMap (fun k=>(124:UInt8)::k)=b::t→b=124:=by
  intro l b t h
  cases l with
  |nil=>simp at h
  |cons k l=>simp only[List.flatMap_cons,cF,List.cons.injEq]at h;exact h.1.symm
 intro l
 induction l with
 |nil=>
  intro m _ _ h
  cases m with
  |nil=>rfl
  |cons k m=>simp at h
 |cons k l ih=>
  intro m hl hm h
  cases m with
  |nil=>simp at h
  |cons k2 m=>
   simp only[List.flatMap_cons,cF,List.cons.injEq,true_and]at h
   obtain⟨h1,h2⟩:=split (hl k (by simp)) (hm k2 (by simp)) (hd l) (hd m) h
   rw[h1,ih (fun x hx=>hl x (by simp[hx])) (fun x hx=>hm x (by simp[hx])) h2]
theorem JO (l:List Int): ∀b∈iU l,b≠124:=fun b hb e=>by
 obtain⟨n,_,hb⟩:=List.mem_flatMap.1 hb
 rcases List.mem_append.1 hb with hb|hb
 ·have:=rV n b hb;rw[e]at this;simp at this
 ·rw[List.mem_singleton.1 hb]at e;exact absurd e (by decide)
theorem AW (a b c:Key) (h1:xj a b=true) (h2:xj b c=true):xj a c=true:=by
 unfold xj at*;exact ax (List.le_trans (of_decide_eq_true h1) (of_decide_eq_true h2))
theorem AX (a b:Key):(xj a b||xj b a)=true:=by
 unfold xj;rcases List.le_total a b with h|h<;>simp[h]
theorem Ej {l m:List Key} (h:l.Perm m):l.mergeSort xj=m.mergeSort xj:=by
 refine List.Perm.eq_of_pairwise (le:=fun a b=>xj a b=true) (fun a b _ _ h1 h2=>?_) (List.pairwise_mergeSort AW AX l) (List.pairwise_mergeSort AW AX m) ?_
 ·unfold xj at h1 h2;exact List.le_antisymm (of_decide_eq_true h1) (of_decide_eq_true h2)
 ·exact(List.mergeSort_perm l xj).trans (h.trans (List.mergeSort_perm m xj).symm)
section
variable {ls:List Lf} {vs:Nat}
theorem qe.num (hG:iB ls vs) {bh:List Nat} (h:qe ls bh): ∀n∈bh.map (fun y:Nat=>(y:Int)),ng n:=fun n hn=>by
 obtain⟨y,hy,rfl⟩:=List.mem_map.1 hn
 obtain⟨k,hk,rfl⟩:=List.mem_iff_getElem.1 hy
 have h1:=h.lt k (by rw[←h.len];exact hk)
 rw[az,ap hk,Option.getD_some]at h1
 have:=(hG.kp (k:=k) (by rw[←h.len];exact hk)).n4
 exact nO (by omega)
theorem Ek (hG:iB ls vs) {a b:St} (ha:kE ls a) (hb:kE ls b) (h:a.key=b.key):a.bh=b.bh∧ ∀c,c∈a.cf↔c∈b.cf:=by
 unfold St.key at h
 have hd: ∀(l:List Key) b t,l.flatMap (fun k=>(124:UInt8)::k)=b::t→b.toNat=124:=by
  intro l b t h
  cases l with
  |nil=>simp at h
  |cons k l=>simp only[List.flatMap_cons,cF,List.cons.injEq]at h;rw[←h.1];rfl
 obtain⟨h1,h2⟩:=Cd (ha.bh.num hG) (hb.bh.num hG) (hd _) (hd _) h
 have hn: ∀s:St,∀k∈(s.cf.map Cf.key).mergeSort xj,∀b∈k,b≠124:=fun s k hk=>by
  obtain⟨c,_,rfl⟩:=List.mem_map.1 (List.mem_mergeSort.1 hk)
  exact JO _
 have h3:=JN (hn a) (hn b) h2
 have h4: ∀k,k∈a.cf.map Cf.key↔k∈b.cf.map Cf.key:=fun k=>by
  rw[←List.mem_mergeSort (le:=xj),h3,List.mem_mergeSort]
 have one: ∀ {s t:St},kE ls s→kE ls t→(∀k,k∈s.cf.map Cf.key→k∈t.cf.map Cf.key)→ ∀c,c∈s.cf→c∈t.cf:=fun {s t} hs ht h c hc=>by
  obtain⟨d,hd,e⟩:=List.mem_map.1 (h _ (List.mem_map_of_mem hc))
  rw[key_inj hG (hs.cf c hc) (ht.cf d hd) e.symm];exact hd
 exact⟨rW h1,fun c=>⟨one ha hb (fun k=>(h4 k).1) c,one hb ha (fun k=>(h4 k).2) c⟩⟩
theorem yL {a b:St} (ha:kE ls a) (hb:kE ls b) (h1:a.bh=b.bh) (h2: ∀c,c∈a.cf↔c∈b.cf):a.key=b.key:=by
 unfold St.key
 rw[h1,Ej (((List.perm_ext_iff_of_nodup ha.nd hb.nd).2 h2).map Cf.key)]
theorem Ea (hG:iB ls vs):Q2 (kE ls) St.key (jj ls) pR (2^vs):=by
 refine⟨fun a b x ha hb h hx=>?_,fun a b ha hb h=>?_,fun a x ha hx=>pg hG ha hx⟩
 ·obtain⟨h1,h2⟩:=Ek hG ha hb h
  refine yL (pg hG ha hx) (pg hG hb hx) (by show iQ ls a.bh x=iQ ls b.bh x;rw[h1]) fun c=>?_
  show c∈List.foldl add [] _↔c∈List.foldl add [] _
  rw[d_,d_,h1]
  simp only[List.mem_flatMap,List.not_mem_nil,false_or]
  exact⟨fun⟨y,hy,hc⟩=>⟨y,(h2 y).1 hy,hc⟩,fun⟨y,hy,hc⟩=>⟨y,(h2 y).2 hy,hc⟩⟩
 ·obtain⟨_,h2⟩:=Ek hG ha hb h
  unfold pR
  rw[dB,cY,cY]
  exact⟨fun⟨c,hc,h⟩=>⟨c,(h2 c).1 hc,h⟩,fun⟨c,hc,h⟩=>⟨c,(h2 c).2 hc,h⟩⟩
end
def Rx.wf:Rx→Bool
 | .ie a b| .iu a b=>a.wf&&b.wf
 | .ahead a| .behind a=>a.plain
 |t=>t.plain
def Rx.op:Rx→Nat
 | .none=>1| .empty=>2| .letter _ _=>3| .ie _ _=>4| .iu _ _=>5| .and _ _=>6| .not _=>7| .star _=>8| .ahead _=>9| .behind _=>10
def km (ls:List Lf) (b x:List Nat):List Lf:=b.foldl (fun ls k=>ls.set k {lf ls k with fo:=(lf ls k).fo++x}) ls
structure BR where
 ls:List Lf
 fi:List Nat
 la:List Nat
noncomputable def eP (v:Nat):Rx→Lf
 | .ahead a=>⟨9,minOf v (iA (fx a) fun _=>true),[],false⟩
 | .behind a=>⟨10,minOf v (iA (fun _=>true) (fx a)),[],false⟩
 |t=>⟨0,minOf v (fx t),[],false⟩
noncomputable def aU (v:Nat):Rx→List Lf→BR
 | .ie a b,ls=>⟨km (aU v b (aU v a ls).ls).ls (aU v a ls).la (aU v b (aU v a ls).ls).fi,(aU v a ls).fi,(aU v b (aU v a ls).ls).la⟩
 | .iu a b,ls=>⟨(aU v b (aU v a ls).ls).ls,(aU v a ls).fi++(aU v b (aU v a ls).ls).fi,(aU v a ls).la++(aU v b (aU v a ls).ls).la⟩
 |t,ls=>⟨ls++[eP v t],[ls.length],[ls.length]⟩
def okB (v:Nat):Rx→Nat→Prop
 | .ie a b,B=>okB v a B∧okB v b B
 | .iu a b,B=>okB v a B∧okB v b B
 | .ahead a,B=>kv v a B∧BS (minOf v (fx a)) (fP (v:Int) true) (ez (minOf v (fx a))) B
 | .behind a,B=>kv v a B∧BS (fP (v:Int) true) (minOf v (fx a)) (ez (fP (v:Int) true)) B
 |t,B=>kv v t B
def Rx.lv:Rx→Nat
 | .ie a b| .iu a b=>a.lv+b.lv
 |_=>1
theorem rR: ∀(b x:List Nat) (ls:List Lf),(km ls b x).length=ls.length
 | [],x,ls=>rfl
 |k::b,x,ls=>by
  show(km (ls.set k _) b x).length=_
  rw[rR b x,eE]
theorem ep (v:Nat): ∀(t:Rx) (ls:List Lf),(aU v t ls).ls.length=ls.length+t.lv
 | .ie a b,ls=>by show(km _ _ _).length=_;rw[rR,ep v b,ep v a,Nat.add_assoc];rfl
 | .iu a b,ls=>by show(aU v b _).ls.length=_;rw[ep v b,ep v a,Nat.add_assoc];rfl
 | .none,ls=>by simp[aU,Rx.lv]
 | .empty,ls=>by simp[aU,Rx.lv]
 | .letter p n,ls=>by simp[aU,Rx.lv]
 | .and a b,ls=>by simp[aU,Rx.lv]
 | .not a,ls=>by simp[aU,Rx.lv]
 | .star a,ls=>by simp[aU,Rx.lv]
 | .ahead a,ls=>by simp[aU,Rx.lv]
 | .behind a,ls=>by simp[aU,Rx.lv]
theorem gu (v:Nat): ∀(t:Rx) (ls:List Lf),(∀k∈(aU v t ls).fi,ls.length≤k∧k<ls.length+t.lv)∧(∀k∈(aU v t ls).la,ls.length≤k∧k<ls.length+t.lv)∧(aU v t ls).fi.length≤t.lv∧(aU v t ls).la.length≤t.lv
 | .ie a b,ls=>by
  obtain⟨h1,_,h3,_⟩:=gu v a ls
  obtain⟨_,h2,_,h4⟩:=gu v b (aU v a ls).ls
  rw[ep]at h2
  refine⟨fun k hk=>?_,fun k hk=>?_,?_,?_⟩
  ·have:=h1 k hk;show _∧k<ls.length+(a.lv+b.lv);omega
  ·have:=h2 k hk;show _∧k<ls.length+(a.lv+b.lv);omega
  ·show(aU v a ls).fi.length≤a.lv+b.lv;omega
  ·show(aU v b (aU v a ls).ls).la.length≤a.lv+b.lv;omega
 | .iu a b,ls=>by
  obtain⟨h1,h5,h3,h6⟩:=gu v a ls
  obtain⟨h7,h2,h8,h4⟩:=gu v b (aU v a ls).ls
  rw[ep]at h2 h7
  refine⟨fun k hk=>?_,fun k hk=>?_,?_,?_⟩
  ·show _∧k<ls.length+(a.lv+b.lv)
   rcases List.mem_append.1 hk with hk|hk
   ·have:=h1 k hk;omega
   ·have:=h7 k hk;omega
  ·show _∧k<ls.length+(a.lv+b.lv)
   rcases List.mem_append.1 hk with hk|hk
   ·have:=h5 k hk;omega
   ·have:=h2 k hk;omega
  ·show(_++_:List Nat).length≤a.lv+b.lv;rw[aP];omega
  ·show(_++_:List Nat).length≤a.lv+b.lv;rw[aP];omega
 | .none,ls=>by simp[aU,Rx.lv]
 | .empty,ls=>by simp[aU,Rx.lv]
 | .letter p n,ls=>by simp[aU,Rx.lv]
 | .and a b,ls=>by simp[aU,Rx.lv]
 | .not a,ls=>by simp[aU,Rx.lv]
 | .star a,ls=>by simp[aU,Rx.lv]
 | .ahead a,ls=>by simp[aU,Rx.lv]
 | .behind a,ls=>by simp[aU,Rx.lv]
def eY (ls:List Lf) (ks:List LK):List Rec:=(ls.zip ks).map fun p=>⟨p.2.b,p.2.c,p.1.fo.map fun y:Nat=>(y:Int)⟩
def gK (II Bo I:TypeId) (ls:List Lf) (ks:List LK):List Item:=(ls.zip ks).map fun p=>dI II Bo I p.1.d p.2.k
theorem JG {ls:List Lf} {ks:List LK} (h:ks.length=ls.length):(eY ls ks).length=ls.length:=by unfold eY;rw[ar,List.length_zip,h,Nat.min_self]
theorem Ny {ls:List Lf} {ks:List LK} (h:ks.length=ls.length) {k:Nat} (hk:k<ls.length):(ls.zip ks)[k]? =some (lf ls k,lk ks k):=by
 rw[ap (by rw[List.length_zip];omega),List.getElem_zip,vm hk]
 show some (ls[k],ks[k]'_)=some (ls[k],ks.getD k default)
 rw[az,ap (by omega)];rfl
theorem D9 {ls:List Lf} {ks:List LK} (h:ks.length=ls.length) {k:Nat} (hk:k<ls.length):(eY ls ks)[k]? =some ⟨(lk ks k).b,(lk ks k).c,(lf ls k).fo.map fun y:Nat=>(y:Int)⟩:=by
 unfold eY;rw[bi,Ny h hk];rfl
theorem s8 {ls:List Lf} {ks:List LK} (h:ks.length=ls.length) (l:Lf) (k:LK):eY (ls++[l]) (ks++[k])=eY ls ks++[⟨k.b,k.c,l.fo.map fun y:Nat=>(y:Int)⟩]:=by
 unfold eY;rw[List.zip_append h.symm,bj];rfl
theorem vo {II Bo I:TypeId} {ls:List Lf} {ks:List LK} (h:ks.length=ls.length) (l:Lf) (k:LK):gK II Bo I (ls++[l]) (ks++[k])=gK II Bo I ls ks++[dI II Bo I l.d k.k]:=by
 unfold gK;rw[List.zip_append h.symm,bj];rfl
theorem ri {ls:List Lf} {ks:List LK} (h:ks.length=ls.length) (l:Lf) (k:LK):dp (ls++[l]) (ks++[k])=dp ls ks++k_ l k:=by
 unfold dp;rw[List.zip_append h.symm,List.flatMap_append];simp
theorem Gh: ∀ {ls:List Lf} {ks:List LK} {k:Nat} (hk:ks.length=ls.length) (h:k<ls.length) (b':Option Addr) (c':Nat) (x:List Nat),
  dp (ls.set k {lf ls k with fo:=x}) (ks.set k {lk ks k with b:=b',c:=c'})=(dp ls ks).set (k*7+5) (.slice b' x.length c'):=by
 intro ls
 induction ls with
 |nil=>intro ks k _ h;simp at h
 |cons l ls ih=>
  intro ks k hk h b' c' x
  cases ks with
  |nil=>simp at hk
  |cons q ks=>
   cases k with
   |zero=>rfl
   |succ k=>
    show k_ l q++dp (ls.set k {lf ls k with fo:=x}) (ks.set k {lk ks k with b:=b',c:=c'})=(k_ l q++dp ls ks).set ((k+1)*7+5) _
    have h7:(k_ l q).length=7:=rfl
    rw[ih (by simpa using hk) (by simpa using h),List.set_append_right _ _ (by rw[h7];omega),show(k+1)*7+5-(k_ l q).length=k*7+5 by rw[h7];omega]
theorem JF: ∀ {ls:List Lf} {ks:List LK} {k:Nat} (hk:ks.length=ls.length) (h:k<ls.length) (b':Option Addr) (c':Nat) (x:List Nat),
  eY (ls.set k {lf ls k with fo:=x}) (ks.set k {lk ks k with b:=b',c:=c'})=(eY ls ks).set k ⟨b',c',x.map fun y:Nat=>(y:Int)⟩:=by
 intro ls
 induction ls with
 |nil=>intro ks k _ h;simp at h
 |cons l ls ih=>
  intro ks k hk h b' c' x
  cases ks with
  |nil=>simp at hk
  |cons q ks=>
   cases k with
   |zero=>rfl
   |succ k=>
    show(⟨q.b,q.c,_⟩:Rec)::eY (ls.set k {lf ls k with fo:=x}) (ks.set k {lk ks k with b:=b',c:=c'})=(_::eY ls ks).set (k+1) _
    rw[ih (by simpa using hk) (by simpa using h)];rfl
theorem Nf {II Bo I:TypeId}: ∀ {ls:List Lf} {ks:List LK} {k:Nat} (hk:ks.length=ls.length) (h:k<ls.length) (b':Option Addr) (c':Nat) (x:List Nat),
  gK II Bo I (ls.set k {lf ls k with fo:=x}) (ks.set k {lk ks k with b:=b',c:=c'})=gK II Bo I ls ks:=by
 intro ls
 induction ls with
 |nil=>intro ks k _ h;simp at h
 |cons l ls ih=>
  intro ks k hk h b' c' x
  cases ks with
  |nil=>simp at hk
  |cons q ks=>
   cases k with
   |zero=>rfl
   |succ k=>
    show dI II Bo I l.d q.k::gK II Bo I (ls.set k {lf ls k with fo:=x}) (ks.set k {lk ks k with b:=b',c:=c'})=dI II Bo I l.d q.k::gK II Bo I ls ks
    rw[ih (by simpa using hk) (by simpa using h)]
theorem Eb: ∀ {ls:List Lf} {ks:List LK} {k:Nat} (hk:ks.length=ls.length) (h:k<ls.length),
  dp (ls.set k {lf ls k with la:=true}) ks=(dp ls ks).set (k*7+6) (.bool true):=by
 intro ls
 induction ls with
 |nil=>intro ks k _ h;simp at h
 |cons l ls ih=>
  intro ks k hk h
  cases ks with
  |nil=>simp at hk
  |cons q ks=>
   cases k with
   |zero=>rfl
   |succ k=>
    show k_ l q++dp (ls.set k {lf ls k with la:=true}) ks=(k_ l q++dp ls ks).set ((k+1)*7+6) _
    have h7:(k_ l q).length=7:=rfl
    rw[ih (by simpa using hk) (by simpa using h),List.set_append_right _ _ (by rw[h7];omega),show(k+1)*7+6-(k_ l q).length=k*7+6 by rw[h7];omega]
theorem Gj: ∀ {ls:List Lf} {ks:List LK} {k:Nat} (hk:ks.length=ls.length) (h:k<ls.length),eY (ls.set k {lf ls k with la:=true}) ks=eY ls ks:=by
 intro ls
 induction ls with
 |nil=>intro ks k _ h;simp at h
 |cons l ls ih=>
  intro ks k hk h
  cases ks with
  |nil=>simp at hk
  |cons q ks=>
   cases k with
   |zero=>rfl
   |succ k=>
    show(⟨q.b,q.c,_⟩:Rec)::eY (ls.set k {lf ls k with la:=true}) ks=_::eY ls ks
    rw[ih (by simpa using hk) (by simpa using h)]
theorem JI {II Bo I:TypeId}: ∀ {ls:List Lf} {ks:List LK} {k:Nat} (hk:ks.length=ls.length) (h:k<ls.length),gK II Bo I (ls.set k {lf ls k with la:=true}) ks=gK II Bo I ls ks:=by
 intro ls
 induction ls with
 |nil=>intro ks k _ h;simp at h
 |cons l ls ih=>
  intro ks k hk h
  cases ks with
  |nil=>simp at hk
  |cons q ks=>
   cases k with
   |zero=>rfl
   |succ k=>
    show dI II Bo I l.d q.k::gK II Bo I (ls.set k {lf ls k with la:=true}) ks=dI II Bo I l.d q.k::gK II Bo I ls ks
    rw[ih (by simpa using hk) (by simpa using h)]
theorem Gi {ls:List Lf} {b x:List Nat} {i:Nat} (h:i<b.length):km ls (b.take (i+1)) x=(km ls (b.take i) x).set b[i] {lf (km ls (b.take i) x) b[i]with fo:=(lf (km ls (b.take i) x) b[i]).fo++x}:=by
 unfold km;rw[aH h,cO];rfl
theorem vq {E:TypeId}: ∀ {qs:List Rec} {c:Nat} (h:c<qs.length),(cg E qs).Perm (qs[c].qt E::cg E (qs.eraseIdx c))
 |q::qs,0,_=>by simp
 |q::qs,c+1,h=>by
  have ih:=vq (E:=E) (qs:=qs) (c:=c) (by simpa using h)
  simp only[cg,cD,List.eraseIdx_cons_succ,List.getElem_cons_succ]at ih⊢
  exact(ih.cons _).trans (List.Perm.swap _ _ _)
theorem Nd {E:TypeId} {qs:List Rec} {c:Nat} {q:Rec} (h:qs[c]? =some q) (X Y:List Item):Sub (q.qt E::(X++(cg E (qs.eraseIdx c)++Y))) (X++(cg E qs++Y)):=by
 obtain⟨hc,rfl⟩:=List.getElem?_eq_some_iff.1 h
 refine⟨X++(cg E qs++Y),?_,aY _⟩
 refine((List.perm_middle (a:=qs[c].qt E) (l₁:=X)).symm).trans (List.Perm.append_left X ?_)
 exact((vq hc).symm.append_right Y)
theorem QV {E:TypeId} {qs:List Rec} {c:Nat} (h:c<qs.length) (X Y:List Item) (q:Rec):Sub (X++(cg E (qs.set c q)++Y)) (q.qt E::(X++(cg E (qs.eraseIdx c)++Y))):=by
 have h1:=vq (E:=E) (qs:=qs.set c q) (c:=c) (by simpa using h)
 rw[List.getElem_set_self,List.eraseIdx_set_eq]at h1
 refine⟨_,?_,aY _⟩
 exact((h1.append_right Y).append_left X).trans (List.perm_middle (a:=q.qt E) (l₁:=X))
theorem dK.post {P:Program} {base:World} {tm:Value} {f:FuncId} {args:List Value} {O:List Item} {R R':Value→List Item→Prop} {Z:Prop} (h:dK P base tm f args O R Z) (hr: ∀v O',R v O'→ ∃O2,Sub O2 O'∧R' v O2):dK P base tm f args O R' Z:=fun w M hI=>
 (h w M hI).mono fun e w' h9=>h9.imp (fun⟨v,O',he,oH,hv⟩=>by
  obtain⟨O2,hs,h2⟩:=hr v O' hv
  exact⟨v,O2,he,oH.kN hs.sJ,h2⟩) id
theorem rj (A B X Y:List Item) (c d:Item) (h:Sub (A++[c,d]) B):Sub (A++((X++[c])++(Y++[d]))) (B++(X++Y)):=by
 obtain⟨l,h1,h2⟩:=h
 refine⟨l++(X++Y),?_,h2.append (aY _)⟩
 refine List.Perm.trans ?_ (h1.append_right (X++Y))
 rw[a6 A]
 refine List.Perm.append_left A ?_
 rw[a6 X]
 refine(List.perm_append_comm_assoc X [c] (Y++[d])).trans ?_
 show(c::(X++(Y++[d]))).Perm (c::d::(X++Y))
 refine List.Perm.cons c ?_
 rw[←a6]
 exact List.perm_append_comm
theorem s9 (E:TypeId) (qs:List Rec) (q:Rec):cg E (qs++[q])=cg E qs++[q.qt E]:=bj
theorem yB: ∀(b x:List Nat) (ls:List Lf) (M:Nat),(∀l∈ls,l.fo.length≤M)→ ∀l∈km ls b x,l.fo.length≤M+b.length*x.length
 | [],x,ls,M,h,l,hl=>by have:=h l hl;simpa using this
 |k::b,x,ls,M,h,l,hl=>by
  have h2: ∀l∈ls.set k {lf ls k with fo:=(lf ls k).fo++x},l.fo.length≤M+x.length:=fun l hl=>by
   by_cases hk:k<ls.length
   ·rcases List.mem_or_eq_of_mem_set hl with hl|rfl
    ·have:=h l hl;omega
    ·have:=h _ (kq hk);rw[aP];omega
   ·rw[List.set_eq_of_length_le (by omega)]at hl;have:=h l hl;omega
  have:=yB b x _ _ h2 l hl
  rw[bG,Nat.succ_mul];omega
theorem yC (a b:Nat):(a+b)*(a+b)=a*a+b*b+2*(a*b):=by
 rw[Nat.add_mul,Nat.mul_add,Nat.mul_add,Nat.mul_comm b a];omega
theorem rU (v:Nat): ∀(t:Rx) (ls:List Lf) (N:Nat),(∀l∈ls,l.fo.length≤N)→ ∀l∈(aU v t ls).ls,l.fo.length≤N+t.lv*t.lv:=by
 have leaf: ∀(ls:List Lf) (N:Nat) (q:Lf),q.fo=[]→(∀l∈ls,l.fo.length≤N)→ ∀l∈ls++[q],l.fo.length≤N+1*1:=fun ls N q hq h l hl=>by
  rcases List.mem_append.1 hl with hl|hl
  ·have:=h l hl;omega
  ·rw[List.mem_singleton.1 hl,hq];exact bl _
 intro t
 induction t with
 |ie a b kF lL=>
  intro ls N h l hl
  have h1:=lL _ _ (kF ls N h)
  have h2:=yB _ (aU v b (aU v a ls).ls).fi _ _ h1 l hl
  have h3:=(gu v a ls).2.2.2
  have h4:=(gu v b (aU v a ls).ls).2.2.1
  have h5:(aU v a ls).la.length*(aU v b (aU v a ls).ls).fi.length≤a.lv*b.lv:=Nat.mul_le_mul h3 h4
  show _≤N+(a.lv+b.lv)*(a.lv+b.lv)
  rw[yC];omega
 |iu a b kF lL=>
  intro ls N h l hl
  have h1:=lL _ _ (kF ls N h) l hl
  show _≤N+(a.lv+b.lv)*(a.lv+b.lv)
  rw[yC];omega
 |none=>exact fun ls N h=>leaf ls N _ F h
 |empty=>exact fun ls N h=>leaf ls N _ F h
 |letter p n=>exact fun ls N h=>leaf ls N _ F h
 |and a b _ _=>exact fun ls N h=>leaf ls N _ F h
 |not a _=>exact fun ls N h=>leaf ls N _ F h
 |star a _=>exact fun ls N h=>leaf ls N _ F h
 |ahead a _=>exact fun ls N h=>leaf ls N _ F h
 |behind a _=>exact fun ls N h=>leaf ls N _ F h
def s6 (ls:List Lf) (t:Rx):Prop:= ∃N,(∀l∈ls,l.fo.length≤N)∧N+t.lv*t.lv≤100000
theorem s6.left {ls:List Lf} {a b:Rx} (h: ∃N,(∀l∈ls,l.fo.length≤N)∧N+(a.lv+b.lv)*(a.lv+b.lv)≤100000):s6 ls a:=by
 obtain⟨N,h1,h2⟩:=h;rw[yC]at h2;exact⟨N,h1,by omega⟩
theorem s6.right {v:Nat} {ls:List Lf} {a b:Rx} (h: ∃N,(∀l∈ls,l.fo.length≤N)∧N+(a.lv+b.lv)*(a.lv+b.lv)≤100000):s6 (aU v a ls).ls b:=by
 obtain⟨N,h1,h2⟩:=h;rw[yC]at h2;exact⟨_,rU v a ls N h1,by omega⟩
theorem Gg {v:Nat} {ls:List Lf} {a b:Rx} (h: ∃N,(∀l∈ls,l.fo.length≤N)∧N+(a.lv+b.lv)*(a.lv+b.lv)≤100000) {y:List Nat} (hy:y.length≤a.lv) {k:Nat} (hk:k<(km (aU v b (aU v a ls).ls).ls y (aU v b (aU v a ls).ls).fi).length):(lf (km (aU v b (aU v a ls).ls).ls y (aU v b (aU v a ls).ls).fi) k).fo.length≤100000:=by
 obtain⟨N,h1,h2⟩:=h
 rw[yC]at h2
 have h3:=yB y (aU v b (aU v a ls).ls).fi _ _ (rU v b _ _ (rU v a ls N h1)) _ (kq hk)
 have h4:=(gu v b (aU v a ls).ls).2.2.1
 have h5:y.length*(aU v b (aU v a ls).ls).fi.length≤a.lv*b.lv:=Nat.mul_le_mul hy h4
 omega
instance:Nonempty St:=⟨⟨[],[]⟩⟩
def iR (x:eC):Bool:=decide (x.op=9)||decide (x.op=10)
def mQ (ls:List Lf) (la:List Nat):List Lf:=la.foldl (fun ls k=>ls.set k {lf ls k with la:=true}) ls
theorem rS: ∀(la:List Nat) (ls:List Lf),(mQ ls la).length=ls.length
 | [],ls=>rfl
 |k::la,ls=>by
  show(mQ (ls.set k _) la).length=_
  rw[rS la,eE]
theorem Gk {ls:List Lf} {la:List Nat} {i:Nat} (h:i<la.length):mQ ls (la.take (i+1))=(mQ ls (la.take i)).set la[i] {lf (mQ ls (la.take i)) la[i]with la:=true}:=by
 unfold mQ;rw[aH h,cO];rfl
noncomputable def jn (v:Nat) (t:Rx):List Lf:=mQ (aU v t []).ls (aU v t []).la
noncomputable def Jn (v:Nat) (t:Rx):List Nat:=(aU v t []).fi
noncomputable def Xj (v:Nat) (t:Rx):Lg:=fun u=>pR (u.foldl (jj (jn v t)) (gW (jn v t) (Jn v t)))
def Ut (v:Nat) (t:Rx) (B:Nat):Prop:=Ho (BP (kE (jn v t)) St.key (jj (jn v t))) (2^v) (gW (jn v t) (Jn v t)).key B
def okC (v:Nat) (t:Rx) (B:Nat):Prop:=okB v t B∧Ut v t B
theorem uy (v:Nat) (t:Rx):(jn v t).length=t.lv:=by unfold jn;rw[rS,ep];simp
theorem xk {v:Nat} {t:Rx}: ∀k∈Jn v t,k<(jn v t).length:=fun k hk=>by
 have:=(gu v t []).1 k hk;rw[uy];simpa using this.2
theorem Nk {v:Nat} {t:Rx} (hG:iB (jn v t) v) {u:List Nat} (hu: ∀x∈u,x<2^v):Js (kE (jn v t)) St.key pR (u.foldl (BP (kE (jn v t)) St.key (jj (jn v t))) (gW (jn v t) (Jn v t)).key)=Xj v t u:=
 Cb (Ea hG) (pV hG xk) hu
theorem lF.of {w base:World} {O:List Item} (hI:Inv base O w) {ob:Nat} {lb:Option Addr} {lc:Nat} {cv fv:Value} {ls:List Lf} {ks:List LK} {OL LT:TypeId} (hk:ks.length=ls.length)
  (h1:dY ob (.cells [cv,.slice lb ls.length lc,fv].toArray OL (0,0))∈O) (h2:av lb lc LT 7 (dp ls ks)∈O) {II Bo I:TypeId} (h3: ∀it∈cg I (eY ls ks),it∈O) (h4: ∀it∈gK II Bo I ls ks,it∈O):lF w ob lb lc cv fv ls ks:=by
 refine⟨hI.gS h1,hI.gV h2,hk,fun k qj=>?_,fun k qj=>?_⟩
 ·have hz:=bJ (Ny hk qj)
  exact hI.at (k:=(lk ks k).k) (h4 _ (List.mem_map.2 ⟨_,hz,F⟩))
 ·have hr:=bJ (D9 hk qj)
  have h5:=hI.gV (h3 _ (List.mem_map.2 ⟨_,hr,F⟩))
  rw[gr]at h5;exact h5
theorem ld {v B:Nat} {M:cV} {p:Lg} (h:fQ (v:Int) B M p) (hB:B≤4096):fQ (v:Int) B (minOf v p) p:=by rw[←gY h hB];exact h
theorem B_ {v:Nat} {a:cV} (h:a.vars=(v:Int)):ez a=2^v:=by unfold ez;rw[h];rfl
theorem kJ {v B:Nat} (hv:v≤6) (hB:B≤4096) {a b:cV} {p q:Lg} {n m:Nat} (ha:HasL (v:Int) n a p) (hb:HasL (v:Int) m b q) (h:BS a b (ez a) B):fQ (v:Int) B (minOf v (iA p q)) (iA p q):=by
 rw[show BS a b (ez a) B=BS a b (2^v) B by rw[B_ ha.vars]]at h
 obtain⟨M,hM⟩:=HH (fin:=Js (GC a b) AK (UL b)) hv hB h
 refine ld (M:=M) (hM.to fun u hu=>?_) hB
 rw[DL ha.valid hb.valid (by rw[ha.vars,hb.vars]) (fun x hx=>by rw[B_ ha.vars];simpa using hu x hx)]
 exact pT (fun w hw=>ha.iH w hw) (fun w hw=>hb.iH w hw) hu
theorem Eg {v B:Nat} (hv:v≤6) (hB:B≤4096) {a:cV} {p:Lg} {n:Nat} (ha:HasL (v:Int) n a p) (h:FX a (ez a) B):fQ (v:Int) B (minOf v (qQ p)) (qQ p):=by
 rw[show FX a (ez a) B=FX a (2^v) B by rw[B_ ha.vars]]at h
 obtain⟨M,hM⟩:=HH (fin:=Js (GS a) Cy (QG a)) hv hB h
 refine ld (M:=M) (hM.to fun u hu=>?_) hB
 rw[AL ha.valid (fun x hx=>by rw[B_ ha.vars];simpa using hu x hx)]
 exact wo (fun w hw=>ha.iH w hw) hu
theorem di {v B:Nat} (hv:v≤6) (hB:B≤4096): ∀ {t:Rx},t.plain=true→kv v t B→fQ (v:Int) B (minOf v (fx t)) (fx t)
 | .none,_,h=>ld (MN hv h) hB
 | .empty,_,h=>by
  have h1:=(ot (fY 0 0) hv (bl 1)).p9
  exact ld (M:=jm (FZ v 0 (fY 0 0))) ⟨h1.toHasL.le h,h1.min⟩ hB
 | .letter p n,_,h=>by
  have h1:=(ot (fY p n) hv (aS 1)).p9
  exact ld (M:=jm (FZ v 1 (fY p n))) ⟨h1.toHasL.le h,h1.min⟩ hB
 | .ie a b,hp,h=>by
  simp only[Rx.plain,ay]at hp
  exact kJ hv hB (di hv hB hp.1 h.1).toHasL (di hv hB hp.2 h.2.1).toHasL h.2.2
 | .iu a b,hp,h=>by
  simp only[Rx.plain,ay]at hp
  exact ld (opM (di hv hB hp.1 h.1) (di hv hB hp.2 h.2.1) h.2.2.1 h.2.2.2) hB
 | .and a b,hp,h=>by
  simp only[Rx.plain,ay]at hp
  exact ld (opM (di hv hB hp.1 h.1) (di hv hB hp.2 h.2.1) h.2.2.1 h.2.2.2) hB
 | .not a,hp,h=>ld (notM (di hv hB (t:=a) hp h.1).toHasL h.2) hB
 | .star a,hp,h=>Eg hv hB (di hv hB (t:=a) hp h.1).toHasL h.2
 | .ahead a,hp,h=>absurd hp (by simp[Rx.plain])
 | .behind a,hp,h=>absurd hp (by simp[Rx.plain])
theorem Nz {v B:Nat} (hv:v≤6) (hB:B≤4096): ∀ {t:Rx},t.wf=true→okB v t B→(∀a b,t≠.ie a b)→(∀a b,t≠.iu a b)→ ∃p,fQ (v:Int) B (eP v t).d p
 | .none,hw,h,_,_=>⟨_,di hv hB (t:=.none) hw h⟩
 | .empty,hw,h,_,_=>⟨_,di hv hB (t:=.empty) hw h⟩
 | .letter p n,hw,h,_,_=>⟨_,di hv hB (t:=.letter p n) hw h⟩
 | .and a b,hw,h,_,_=>⟨_,di hv hB (t:=.and a b) hw h⟩
 | .not a,hw,h,_,_=>⟨_,di hv hB (t:=.not a) hw h⟩
 | .star a,hw,h,_,_=>⟨_,di hv hB (t:=.star a) hw h⟩
 | .ie a b,_,_,h,_=>absurd F (h a b)
 | .iu a b,_,_,_,h=>absurd F (h a b)
 | .ahead a,hw,h,_,_=>⟨_,kJ hv hB (di hv hB (t:=a) hw h.1).toHasL (eV hv) h.2⟩
 | .behind a,hw,h,_,_=>⟨_,kJ hv hB (eV hv) (di hv hB (t:=a) hw h.1).toHasL h.2⟩
def wx (v B:Nat) (l:Lf):Prop:=(∃p,fQ (v:Int) B l.d p)∧(l.op=0∨l.op=9∨l.op=10)
def NA (ls:List Lf):Prop:= ∀k,k<ls.length→ ∀j∈(lf ls k).fo,k<j∧j<ls.length
theorem Ca {ls:List Lf} {k i:Nat} {q:Lf} (hk:k<ls.length):lf (ls.set k q) i=if i=k then q else lf ls i:=by
 unfold lf
 rw[az,az]
 by_cases e:i=k
 ·subst e;rw[List.getElem?_set_self hk,aJ F];rfl
 ·rw[List.getElem?_set_ne (fun h=>e h.symm),aA e]
theorem HI {v B:Nat}: ∀(b x:List Nat) (ls:List Lf),(∀l∈ls,wx v B l)→NA ls→(∀k∈b,k<ls.length∧ ∀j∈x,k<j∧j<ls.length)→(∀l∈km ls b x,wx v B l)∧NA (km ls b x)
 | [],x,ls,h1,h2,_=>⟨h1,h2⟩
 |k::b,x,ls,h1,h2,h3=>by
  obtain⟨hk,hj⟩:=h3 k (by simp)
  refine HI b x (ls.set k {lf ls k with fo:=(lf ls k).fo++x}) (fun l hl=>?_) (fun i hi j sP=>?_) (fun k2 qi=>?_)
  ·rcases List.mem_or_eq_of_mem_set hl with hl|rfl
   ·exact h1 l hl
   ·have h9:=h1 _ (kq hk);exact⟨h9.1,h9.2⟩
  ·rw[eE]at hi⊢
   rw[Ca hk]at sP
   split at sP
   ·rename_i e
    subst e
    rcases List.mem_append.1 sP with h|h
    ·exact h2 i hk j h
    ·exact hj j h
   ·exact h2 i hi j sP
  ·rw[eE];exact h3 k2 (by simp[qi])
theorem NA.snoc {ls:List Lf} {q:Lf} (h:NA ls) (hq:q.fo=[]):NA (ls++[q]):=fun k hk j hj=>by
 rw[aP,List.length_singleton]at hk⊢
 unfold lf at hj
 rw[az]at hj
 by_cases e:k<ls.length
 ·rw[bE e]at hj
  have:=h k e j (by unfold lf;rw[az];exact hj)
  omega
 ·rw[bM (by omega),show k-ls.length=0 by omega]at hj
  simp[hq]at hj
theorem NB {v B:Nat} (hv:v≤6) (hB:B≤4096): ∀(t:Rx) (ls:List Lf),t.wf=true→okB v t B→(∀l∈ls,wx v B l)→NA ls→(∀l∈(aU v t ls).ls,wx v B l)∧NA (aU v t ls).ls:=by
 have leaf: ∀(t:Rx) (ls:List Lf),t.wf=true→okB v t B→(∀a b,t≠.ie a b)→(∀a b,t≠.iu a b)→(eP v t).fo=[]→((eP v t).op=0∨(eP v t).op=9∨(eP v t).op=10)→(∀l∈ls,wx v B l)→NA ls→(∀l∈ls++[eP v t],wx v B l)∧NA (ls++[eP v t]):=fun t ls hw ho n1 n2 hf JD h1 h2=>by
  refine⟨fun l hl=>?_,h2.snoc hf⟩
  rcases List.mem_append.1 hl with hl|hl
  ·exact h1 l hl
  ·rw[List.mem_singleton.1 hl];exact⟨Nz hv hB hw ho n1 n2,JD⟩
 intro t
 induction t with
 |ie a b kF lL=>
  intro ls hw ho h1 h2
  simp only[Rx.wf,ay]at hw
  obtain⟨a1,a2⟩:=kF ls hw.1 ho.1 h1 h2
  obtain⟨b1,b2⟩:=lL _ hw.2 ho.2 a1 a2
  refine HI _ _ _ b1 b2 fun k hk=>?_
  have k1:=(gu v a ls).2.1 k hk
  have Ma:=ep v a ls
  have hl2:=ep v b (aU v a ls).ls
  refine⟨by omega,fun j hj=>?_⟩
  have k2:=(gu v b (aU v a ls).ls).1 j hj
  omega
 |iu a b kF lL=>
  intro ls hw ho h1 h2
  simp only[Rx.wf,ay]at hw
  obtain⟨a1,a2⟩:=kF ls hw.1 ho.1 h1 h2
  exact lL _ hw.2 ho.2 a1 a2
 |none=>exact fun ls hw ho=>leaf .none ls hw ho (by simp) (by simp) F (.inl F)
 |empty=>exact fun ls hw ho=>leaf .empty ls hw ho (by simp) (by simp) F (.inl F)
 |letter p n=>exact fun ls hw ho=>leaf (.letter p n) ls hw ho (by simp) (by simp) F (.inl F)
 |and a b _ _=>exact fun ls hw ho=>leaf (.and a b) ls hw ho (by simp) (by simp) F (.inl F)
 |not a _=>exact fun ls hw ho=>leaf (.not a) ls hw ho (by simp) (by simp) F (.inl F)
 |star a _=>exact fun ls hw ho=>leaf (.star a) ls hw ho (by simp) (by simp) F (.inl F)
 |ahead a _=>exact fun ls hw ho=>leaf (.ahead a) ls hw ho (by simp) (by simp) F (.inr (.inl F))
 |behind a _=>exact fun ls hw ho=>leaf (.behind a) ls hw ho (by simp) (by simp) F (.inr (.inr F))
theorem HJ {v B:Nat}: ∀(la:List Nat) (ls:List Lf),(∀l∈ls,wx v B l∧l.fo.length≤1000000)→NA ls→(∀k∈la,k<ls.length)→(∀l∈mQ ls la,wx v B l∧l.fo.length≤1000000)∧NA (mQ ls la)
 | [],ls,h1,h2,_=>⟨h1,h2⟩
 |k::la,ls,h1,h2,h3=>by
  have hk:=h3 k (by simp)
  refine HJ la (ls.set k {lf ls k with la:=true}) (fun l hl=>?_) (fun i hi j hj=>?_) (fun k2 qi=>by rw[eE];exact h3 k2 (by simp[qi]))
  ·rcases List.mem_or_eq_of_mem_set hl with hl|rfl
   ·exact h1 l hl
   ·have h9:=h1 _ (kq hk);exact⟨⟨h9.1.1,h9.1.2⟩,h9.2⟩
  ·rw[eE]at hi⊢
   rw[Ca hk]at hj
   split at hj
   ·rename_i e;subst e;exact h2 i hk j hj
   ·exact h2 i hi j hj
theorem BH {v B:Nat} (hv:v≤6) (hB:B≤4096) {t:Rx} (hw:t.wf=true) (JE:t.lv≤12) (h:okB v t B):iB (jn v t) v:=by
 obtain⟨h1,h2⟩:=NB hv hB t [] hw h (fun l hl=>by simp at hl) (fun k hk=>by simp at hk)
 have h3:=rU v t [] 0 (fun l hl=>by simp at hl)
 have h4:t.lv*t.lv≤144:=Nat.mul_le_mul JE JE
 obtain⟨h5,h6⟩:=HJ (v:=v) (B:=B) (aU v t []).la (aU v t []).ls (fun l hl=>⟨h1 l hl,by have:=h3 l hl;omega⟩) h2 (fun k hk=>by
  have:=(gu v t []).2.1 k hk;rw[ep];exact this.2)
 refine⟨by rw[uy];exact JE,fun l hl=>?_,fun l hl=>?_,fun l hl=>(h5 l hl).1.2,fun k hk j hj=>h6 k hk j hj,fun l hl=>(h5 l hl).2⟩
 ·obtain⟨p,hp⟩:=(h5 l hl).1.1;exact hp.valid
 ·obtain⟨p,hp⟩:=(h5 l hl).1.1;exact hp.vars
section
variable (ls:List Lf)
def JS (bh:List Nat) (u:List Nat):List Nat:=u.foldl (iQ ls) bh
inductive Way (Ra:Unit):Bool→List Nat→Nat→List Nat→Prop
 |ahead {bh k v}:(lf ls k).op=9→dF (lf ls k).d (runN (lf ls k).d (lf ls k).d.start.toNat v)=true→Way Ra false bh k v→Way Ra true bh k v
 |behind {bh k v}:(lf ls k).op=10→dF (lf ls k).d (bh.getD k 0)=true→Way Ra false bh k v→Way Ra true bh k v
 |plain {bh k u v}:(lf ls k).op≠9→(lf ls k).op≠10→dF (lf ls k).d (runN (lf ls k).d (lf ls k).d.start.toNat u)=true→Way Ra false (JS ls bh u) k v→Way Ra true bh k (u++v)
 |last {bh k}:(lf ls k).la=true→Way Ra false bh k []
 |fol {bh k j v}:j∈(lf ls k).fo→Way Ra true bh j v→Way Ra false bh k v
def JT (o:List Ob) (v:List Nat):Prop:= ∀p∈o,dF (lf ls p.1).d (runN (lf ls p.1).d p.2 v)=true
def JU (bh:List Nat) (v:List Nat) (c:Cf):Prop:=JT ls c.o v∧((c.k= -1∧v=[])∨ ∃k:Nat,c.k=(k:Int)∧ ∃u v2,u≠ []∧v=u++v2∧dF (lf ls k).d (runN (lf ls k).d c.s u)=true∧Way ls () false (JS ls bh u) k v2)
def Rb (vs k q:Nat):Prop:= ∃u,iv (vs:Int) u∧q=runN (lf ls k).d (lf ls k).d.start.toNat u
def zY (vs:Nat):Prop:= ∀k,k<ls.length→(lf ls k).op=9→ ∀u v,iv (vs:Int) u→iv (vs:Int) v→dF (lf ls k).d (runN (lf ls k).d (lf ls k).d.start.toNat u)=true→dF (lf ls k).d (runN (lf ls k).d (lf ls k).d.start.toNat (u++v))=true
variable {ls}
theorem H2 {vs:Nat} (hA:zY ls vs) {o:List Ob} {x:Ob} {v:List Nat} (hv:iv (vs:Int) v) (hk:x.1<ls.length) (ho:(lf ls x.1).op=9) (hx:Rb ls vs x.1 x.2):JT ls (nR ls o x) v↔JT ls o v∧dF (lf ls x.1).d (runN (lf ls x.1).d x.2 v)=true:=by
 unfold nR
 split
 ·rename_i h
  obtain⟨u,hu,e⟩:=hx
  refine⟨fun h1=>⟨h1,?_⟩,fun h1=>h1.1⟩
  rw[e]at h⊢
  have:=hA _ hk ho u v hu hv h
  unfold runN at this⊢;rwa[cO]at this
 ·constructor
  ·exact fun h1=>⟨fun p hp=>h1 p (aO _ hp),h1 x (ao _ (List.mem_singleton.2 F))⟩
  ·rintro⟨h1,h2⟩ p hp
   rcases List.mem_append.1 hp with hp|hp
   ·exact h1 p hp
   ·rw[List.mem_singleton.1 hp];exact h2
def Gs (vs:Nat) (o:List Ob):Prop:= ∀p∈o,p.1<ls.length∧(lf ls p.1).op=9∧Rb ls vs p.1 p.2∧dF (lf ls p.1).d p.2=false
theorem H3 {vs:Nat} {o:List Ob} {x:Ob} (h:Gs (ls:=ls) vs o) (hk:x.1<ls.length) (ho:(lf ls x.1).op=9) (hx:Rb ls vs x.1 x.2):Gs (ls:=ls) vs (nR ls o x):=by
 unfold nR
 split
 ·exact h
 ·rename_i hf
  intro p hp
  rcases List.mem_append.1 hp with hp|hp
  ·exact h p hp
  ·rw[List.mem_singleton.1 hp];exact⟨hk,ho,hx,by simpa using hf⟩
theorem Er {vs:Nat} (hG:iB ls vs) (hA:zY ls vs) {x:Nat} (hx:x<2^vs) {v:List Nat} (hv:iv (vs:Int) v): ∀(o o1:List Ob),Gs (ls:=ls) vs o→Gs (ls:=ls) vs o1→(JT ls (o.foldl (fun o p=>nR ls o (p.1,eS (lf ls p.1).d p.2 x)) o1) v↔JT ls o1 v∧JT ls o (x::v))∧Gs (ls:=ls) vs (o.foldl (fun o p=>nR ls o (p.1,eS (lf ls p.1).d p.2 x)) o1)
 | [],o1,_,h1=>⟨⟨fun h=>⟨h,fun p hp=>by simp at hp⟩,fun h=>h.1⟩,h1⟩
 |p::o,o1,h,h1=>by
  obtain⟨k1,k2,k3,_⟩:=h p (by simp)
  have uv:Rb ls vs p.1 (eS (lf ls p.1).d p.2 x):=by
   obtain⟨u,hu,e⟩:=k3
   refine⟨u++[x],fun y hy=>?_,by rw[e,eQ]⟩
   rcases List.mem_append.1 hy with hy|hy
   ·exact hu y hy
   ·rw[List.mem_singleton.1 hy];simpa using hx
  have h2:=H3 (x:=(p.1,eS (lf ls p.1).d p.2 x)) h1 k1 k2 uv
  obtain⟨h3,h4⟩:=Er hG hA hx hv o _ (fun q hq=>h q (by simp[hq])) h2
  refine⟨?_,h4⟩
  rw[cP,h3,H2 (x:=(p.1,eS (lf ls p.1).d p.2 x)) hA hv k1 k2 uv]
  constructor
  ·rintro⟨⟨a,b⟩,c⟩
   refine⟨a,fun q hq=>?_⟩
   rcases List.mem_cons.1 hq with rfl|hq
   ·exact b
   ·exact c q hq
  ·rintro⟨a,b⟩
   exact⟨⟨a,b p (by simp)⟩,fun q hq=>b q (by simp[hq])⟩
theorem NP {α:Type} {p:α→Prop} {a b:List α}:(∃c,c∈a++b∧p c)↔(∃c,c∈a∧p c)∨ ∃c,c∈b∧p c:=by
 constructor
 ·rintro⟨c,hc,h⟩
  exact(List.mem_append.1 hc).elim (fun h1=>.inl ⟨c,h1,h⟩) fun h1=>.inr ⟨c,h1,h⟩
 ·rintro(⟨c,hc,h⟩|⟨c,hc,h⟩)
  ·exact⟨c,aO _ hc,h⟩
  ·exact⟨c,ao _ hc,h⟩
theorem AZ {bh:List Nat} {k:Nat} {v:List Nat}:Way ls () false bh k v↔((lf ls k).la=true∧v=[])∨ ∃j,j∈(lf ls k).fo∧Way ls () true bh j v:=by
 constructor
 ·intro h
  cases h with
  |last h=>exact .inl ⟨h,F⟩
  |fol h1 h2=>exact .inr ⟨_,h1,h2⟩
 ·rintro(⟨h,rfl⟩|⟨j,h1,h2⟩)
  ·exact .last h
  ·exact .fol h1 h2
mutual
theorem nu {vs:Nat} (hG:iB ls vs) (hA:zY ls vs) {bh v:List Nat} (hv:iv (vs:Int) v): ∀(f:Nat) {k:Nat} {o:List Ob},k<ls.length→2*(ls.length-k)≤f→Gs (ls:=ls) vs o→((∃c,c∈fw ls f bh k o∧JU ls bh v c)↔JT ls o v∧Way ls () true bh k v)∧ ∀c∈fw ls f bh k o,Gs (ls:=ls) vs c.o
 |0,k,o,hk,hf,_=>absurd hf (by omega)
 |f+1,k,o,hk,hf,ho=>by
  have hs:Rb ls vs k (lf ls k).d.start.toNat:=⟨[],fun y hy=>by simp at hy,F⟩
  unfold fw
  split
  ·rename_i h9
   have h1:=H3 (x:=(k,(lf ls k).d.start.toNat)) ho hk h9 hs
   obtain⟨h2,h3⟩:=r5 hG hA hv f (k:=k) hk (by omega) h1
   refine⟨?_,h3⟩
   rw[h2,H2 (x:=(k,(lf ls k).d.start.toNat)) hA hv hk h9 hs]
   constructor
   ·rintro⟨⟨a,b⟩,c⟩;exact⟨a,.ahead h9 b c⟩
   ·rintro⟨a,b⟩
    cases b with
    |ahead _ h4 h5=>exact⟨⟨a,h4⟩,h5⟩
    |behind h4=>omega
    |plain h4=>exact absurd h9 h4
  ·rename_i h9
   split
   ·rename_i wU
    split
    ·rename_i hb
     obtain⟨h2,h3⟩:=r5 hG hA hv f (k:=k) hk (by omega) ho
     refine⟨?_,h3⟩
     rw[h2]
     constructor
     ·rintro⟨a,c⟩;exact⟨a,.behind wU hb c⟩
     ·rintro⟨a,b⟩
      cases b with
      |ahead h4=>exact absurd h4 h9
      |behind _ h4 h5=>exact⟨a,h5⟩
      |plain _ h4=>exact absurd wU h4
    ·rename_i hb
     refine⟨⟨fun⟨c,hc,_⟩=>by simp at hc,fun⟨a,b⟩=>?_⟩,fun c hc=>by simp at hc⟩
     cases b with
     |ahead h4=>exact absurd h4 h9
     |behind _ h4 h5=>exact absurd h4 hb
     |plain _ h4=>exact absurd wU h4
   ·rename_i wU
    have hl:=r5 hG hA (bh:=bh) hv f (k:=k) hk (by omega) ho
    refine⟨?_,fun c hc=>?_⟩
    ·have e:(∃c,c∈(⟨(k:Int),(lf ls k).d.start.toNat,o⟩:Cf)::(if dF (lf ls k).d (lf ls k).d.start.toNat=true then fX ls f bh k o else[])∧JU ls bh v c)↔JU ls bh v ⟨(k:Int),(lf ls k).d.start.toNat,o⟩∨(dF (lf ls k).d (lf ls k).d.start.toNat=true∧JT ls o v∧Way ls () false bh k v):=by
      rw[←hl.1]
      constructor
      ·rintro⟨c,hc,h⟩
       rcases List.mem_cons.1 hc with rfl|hc
       ·exact .inl h
       ·split at hc
        ·exact .inr ⟨by assumption,c,hc,h⟩
        ·simp at hc
      ·rintro(h|⟨h1,c,hc,h⟩)
       ·exact⟨_,List.mem_cons_self,h⟩
       ·exact⟨c,List.mem_cons_of_mem _ (by rw[aJ h1];exact hc),h⟩
     rw[e]
     constructor
     ·rintro(⟨h1,⟨h2,_⟩|⟨k2,h2,u,v2,h3,rfl,h4,h5⟩⟩|⟨h1,h2,h3⟩)
      ·have h2:(k:Int)= -1:=h2;omega
      ·have h2:(k:Int)=(k2:Int):=h2
       have:k2=k:=by omega
       subst this
       exact⟨h1,.plain h9 wU h4 h5⟩
      ·exact⟨h2,Way.plain (u:=[]) h9 wU h1 h3⟩
     ·rintro⟨h1,h2⟩
      cases h2 with
      |ahead h4=>exact absurd h4 h9
      |behind h4=>exact absurd h4 wU
      | @plain _ _ u v2 _ _ h4 h5=>
       by_cases hu:u=[]
       ·subst hu;exact .inr ⟨h4,h1,h5⟩
       ·exact .inl ⟨h1,.inr ⟨k,F,u,v2,hu,F,h4,h5⟩⟩
    ·rcases List.mem_cons.1 hc with rfl|hc
     ·exact ho
     ·split at hc
      ·exact hl.2 c hc
      ·simp at hc
theorem r5 {vs:Nat} (hG:iB ls vs) (hA:zY ls vs) {bh v:List Nat} (hv:iv (vs:Int) v): ∀(f:Nat) {k:Nat} {o:List Ob},k<ls.length→2*(ls.length-k)≤f+1→Gs (ls:=ls) vs o→((∃c,c∈fX ls f bh k o∧JU ls bh v c)↔JT ls o v∧Way ls () false bh k v)∧ ∀c∈fX ls f bh k o,Gs (ls:=ls) vs c.o
 |0,k,o,hk,hf,_=>absurd hf (by omega)
 |f+1,k,o,hk,hf,ho=>by
  have hj: ∀j,j∈(lf ls k).fo→j<ls.length∧2*(ls.length-j)≤f:=fun j hj=>by
   have:=hG.fo k hk j hj;omega
  unfold fX
  refine⟨?_,fun c hc=>?_⟩
  ·rw[NP,AZ]
   have e1:(∃c,c∈((lf ls k).fo.flatMap fun j=>fw ls f bh j o)∧JU ls bh v c)↔ ∃j,j∈(lf ls k).fo∧JT ls o v∧Way ls () true bh j v:=by
    constructor
    ·rintro⟨c,hc,h⟩
     obtain⟨j,h1,h2⟩:=List.mem_flatMap.1 hc
     exact⟨j,h1,(nu hG hA hv f (hj j h1).1 (hj j h1).2 ho).1.1 ⟨c,h2,h⟩⟩
    ·rintro⟨j,h1,h2⟩
     obtain⟨c,h3,h4⟩:=(nu hG hA hv f (hj j h1).1 (hj j h1).2 ho).1.2 h2
     exact⟨c,List.mem_flatMap.2 ⟨j,h1,h3⟩,h4⟩
   have e2:(∃c,c∈(if(lf ls k).la=true then[(⟨-1,0,o⟩:Cf)]else[])∧JU ls bh v c)↔(lf ls k).la=true∧JT ls o v∧v=[]:=by
    constructor
    ·rintro⟨c,hc,h⟩
     split at hc
     ·rename_i hl
      rw[List.mem_singleton.1 hc]at h
      obtain⟨h1,⟨_,h2⟩|⟨k2,h2,_⟩⟩:=h
      ·exact⟨hl,h1,h2⟩
      ·have h2:(-1:Int)=(k2:Int):=h2;omega
     ·simp at hc
    ·rintro⟨hl,h1,h2⟩
     exact⟨⟨-1,0,o⟩,by rw[aJ hl];exact List.mem_singleton.2 F,h1,.inl ⟨F,h2⟩⟩
   rw[e1,e2]
   constructor
   ·rintro(⟨j,h1,h2,h3⟩|⟨h1,h2,h3⟩)
    ·exact⟨h2,.inr ⟨j,h1,h3⟩⟩
    ·exact⟨h2,.inl ⟨h1,h3⟩⟩
   ·rintro⟨h2,⟨h1,h3⟩|⟨j,h1,h3⟩⟩
    ·exact .inr ⟨h1,h2,h3⟩
    ·exact .inl ⟨j,h1,h2,h3⟩
  ·rcases List.mem_append.1 hc with hc|hc
   ·obtain⟨j,h1,h2⟩:=List.mem_flatMap.1 hc
    exact(nu hG hA hv f (hj j h1).1 (hj j h1).2 ho).2 c h2
   ·split at hc
    ·rw[List.mem_singleton.1 hc];exact ho
    ·simp at hc
end
structure JV (ls:List Lf) (vs:Nat) (s:St):Prop where
 ob: ∀c∈s.cf,Gs (ls:=ls) vs c.o
 sZ: ∀c∈s.cf,jt ls c
theorem yO {vs:Nat} (hG:iB ls vs) (hA:zY ls vs) {bh v:List Nat} {x:Nat} (hx:x<2^vs) (hv:iv (vs:Int) v) {c:Cf} (hg:jt ls c) (ho:Gs (ls:=ls) vs c.o):((∃d,d∈gZ ls (iQ ls bh x) x c∧JU ls (iQ ls bh x) v d)↔JU ls bh (x::v) c)∧ ∀d∈gZ ls (iQ ls bh x) x c,Gs (ls:=ls) vs d.o:=by
 rcases hg with⟨h1,_,_⟩|⟨k,h1,hk,hs,_⟩
 ·unfold gZ
  rw[aJ (by omega)]
  refine⟨⟨fun⟨d,hd,_⟩=>by simp at hd,fun h=>?_⟩,fun d hd=>by simp at hd⟩
  obtain⟨_,⟨_,h2⟩|⟨k2,h2,_⟩⟩:=h
  ·cases h2
  ·omega
 ·obtain⟨h2,h3⟩:=Er hG hA hx hv c.o [] ho (fun p hp=>by simp at hp)
  have h2:JT ls (lG ls c.o x) v↔JT ls c.o (x::v):=h2.trans ⟨fun h=>h.2,fun h=>⟨fun p hp=>by simp at hp,h⟩⟩
  have h3:Gs (ls:=ls) vs (lG ls c.o x):=h3
  have hl:=r5 hG hA (bh:=iQ ls bh x) hv (2*ls.length) (k:=k) hk (by omega) h3
  unfold gZ
  rw[aA (by omega),h1,Int.toNat_natCast]
  refine⟨?_,fun d hd=>?_⟩
  ·constructor
   ·rintro⟨d,hd,h⟩
    rcases List.mem_cons.1 hd with rfl|hd
    ·obtain⟨h4,⟨h5,_⟩|⟨k2,h5,u,v2,h6,h7,h8,h9⟩⟩:=h
     ·have h5:(k:Int)= -1:=h5;omega
     ·have h5:(k:Int)=(k2:Int):=h5
      have:k2=k:=by omega
      subst this
      exact⟨h2.1 h4,.inr ⟨k2,h1,x::u,v2,by simp,by rw[h7];rfl,h8,h9⟩⟩
    ·split at hd
     ·rename_i hf
      obtain⟨h4,h5⟩:=hl.1.1 ⟨d,hd,h⟩
      exact⟨h2.1 h4,.inr ⟨k,h1,[x],v,by simp,F,hf,h5⟩⟩
     ·simp at hd
   ·rintro⟨h4,⟨_,h5⟩|⟨k2,h5,u,v2,h6,h7,h8,h9⟩⟩
    ·cases h5
    ·have:k2=k:=by omega
     subst this
     cases u with
     |nil=>exact absurd F h6
     |cons y u=>
      simp only[cF,List.cons.injEq]at h7
      obtain⟨rfl,rfl⟩:=h7
      by_cases hu:u=[]
      ·subst hu
       obtain⟨d,hd,h⟩:=hl.1.2 ⟨h2.2 h4,h9⟩
       have h8:dF (lf ls k2).d (eS (lf ls k2).d c.s x)=true:=h8
       exact⟨d,List.mem_cons_of_mem _ (by rw[aJ h8];exact hd),h⟩
      ·exact⟨_,List.mem_cons_self,h2.2 h4,.inr ⟨k2,F,u,v2,hu,F,h8,h9⟩⟩
  ·rcases List.mem_cons.1 hd with rfl|hd
   ·exact h3
   ·split at hd
    ·exact hl.2 d hd
    ·simp at hd
theorem Es {vs:Nat} (hG:iB ls vs) (hA:zY ls vs) {s:St} (hs:JV ls vs s) {x:Nat} (hx:x<2^vs):JV ls vs (jj ls s x)∧ ∀v,iv (vs:Int) v→((∃c,c∈(jj ls s x).cf∧JU ls (jj ls s x).bh v c)↔ ∃c,c∈s.cf∧JU ls s.bh (x::v) c):=by
 have hm: ∀c,c∈(jj ls s x).cf↔ ∃y,y∈s.cf∧c∈gZ ls (iQ ls s.bh x) x y:=fun c=>by
  show c∈((s.cf.flatMap (gZ ls (iQ ls s.bh x) x)).foldl add [])↔_
  rw[d_,List.mem_flatMap]
  exact⟨fun h=>h.elim (fun h=>by simp at h) id,.inr⟩
 refine⟨⟨fun c hc=>?_,fun c hc=>?_⟩,fun v hv=>?_⟩
 ·obtain⟨y,hy,hc⟩:=(hm c).1 hc
  exact(yO hG hA (bh:=s.bh) (v:=[]) hx (fun x hx=>by simp at hx) (hs.sZ y hy) (hs.ob y hy)).2 c hc
 ·obtain⟨y,hy,hc⟩:=(hm c).1 hc
  exact yI hG hx (hs.sZ y hy) c hc
 ·constructor
  ·rintro⟨c,hc,h⟩
   obtain⟨y,hy,hc⟩:=(hm c).1 hc
   exact⟨y,hy,(yO hG hA hx hv (hs.sZ y hy) (hs.ob y hy)).1.1 ⟨c,hc,h⟩⟩
  ·rintro⟨y,hy,h⟩
   obtain⟨c,hc,h⟩:=(yO hG hA hx hv (hs.sZ y hy) (hs.ob y hy)).1.2 h
   exact⟨c,(hm c).2 ⟨y,hy,hc⟩,h⟩
theorem Rc {vs:Nat} {s:St} (hs:JV ls vs s):pR s=true↔ ∃c,c∈s.cf∧JU ls s.bh [] c:=by
 unfold pR
 rw[cY]
 constructor
 ·rintro⟨c,hc,h⟩
  rw[ay,bT,List.isEmpty_iff]at h
  refine⟨c,hc,fun p hp=>by rw[h.2]at hp;simp at hp,.inl ⟨?_,F⟩⟩
  rcases hs.sZ c hc with⟨h1,_⟩|⟨k,h1,_⟩
  ·exact h1
  ·omega
 ·rintro⟨c,hc,h1,⟨h2,_⟩|⟨k,_,u,v2,h3,h4,_⟩⟩
  ·refine⟨c,hc,?_⟩
   rw[ay,bT,List.isEmpty_iff]
   refine⟨by omega,?_⟩
   cases ho:c.o with
   |nil=>rfl
   |cons p o=>
    have h5:=h1 p (by rw[ho];simp)
    have h6:=(hs.ob c hc p (by rw[ho];simp)).2.2.2
    have h5:dF (lf ls p.1).d p.2=true:=h5
    rw[h6]at h5;cases h5
  ·exact absurd (List.append_eq_nil_iff.1 h4.symm).1 h3
theorem A0 {vs:Nat} (hG:iB ls vs) (hA:zY ls vs) {first:List Nat} (hf: ∀k∈first,k<ls.length):JV ls vs (gW ls first)∧ ∀v,iv (vs:Int) v→((∃c,c∈(gW ls first).cf∧JU ls (gW ls first).bh v c)↔ ∃k,k∈first∧Way ls () true (gW ls first).bh k v):=by
 have hm: ∀c,c∈(gW ls first).cf↔ ∃k,k∈first∧c∈fw ls (2*ls.length) (ls.map fun l=>l.d.start.toNat) k []:=fun c=>by
  show c∈((first.flatMap fun k=>fw ls (2*ls.length) (ls.map fun l=>l.d.start.toNat) k []).foldl add [])↔_
  rw[d_,List.mem_flatMap]
  exact⟨fun h=>h.elim (fun h=>by simp at h) id,.inr⟩
 have hn:Gs (ls:=ls) vs []:=fun p hp=>by simp at hp
 refine⟨⟨fun c hc=>?_,fun c hc=>(pV hG hf).cf c hc⟩,fun v hv=>?_⟩
 ·obtain⟨k,hk,hc⟩:=(hm c).1 hc
  exact(nu hG hA (v:=[]) (fun x hx=>by simp at hx) (2*ls.length) (hf k hk) (by omega) hn).2 c hc
 ·constructor
  ·rintro⟨c,hc,h⟩
   obtain⟨k,hk,hc⟩:=(hm c).1 hc
   exact⟨k,hk,((nu hG hA hv (2*ls.length) (hf k hk) (by omega) hn).1.1 ⟨c,hc,h⟩).2⟩
  ·rintro⟨k,hk,h⟩
   obtain⟨c,hc,h⟩:=(nu hG hA hv (2*ls.length) (hf k hk) (by omega) hn).1.2 ⟨fun p hp=>by simp at hp,h⟩
   exact⟨c,(hm c).2 ⟨k,hk,hc⟩,h⟩
theorem Et {vs:Nat} (hG:iB ls vs) (hA:zY ls vs) {first:List Nat} (hf: ∀k∈first,k<ls.length) {w:List Nat} (hw:iv (vs:Int) w):pR (w.foldl (jj ls) (gW ls first))=true↔ ∃k,k∈first∧Way ls () true (ls.map fun l=>l.d.start.toNat) k w:=by
 have run: ∀(u:List Nat) {s:St},JV ls vs s→iv (vs:Int) u→(pR (u.foldl (jj ls) s)=true↔ ∃c,c∈s.cf∧JU ls s.bh u c):=by
  intro u
  induction u with
  |nil=>exact fun hs _=>Rc hs
  |cons x u ih=>
   intro s hs hu
   have hx:x<2^vs:=by have:=hu x (by simp);simpa using this
   obtain⟨h1,h2⟩:=Es hG hA hs hx
   rw[cP,ih h1 (fun y hy=>hu y (by simp[hy]))]
   exact h2 u fun y hy=>hu y (by simp[hy])
 obtain⟨h1,h2⟩:=A0 hG hA hf
 rw[run w h1 hw]
 exact h2 w hw
end
structure En where
 c:Nat
 n:Nat
 r:Nat
 f:Nat
def En.to (e:En) (s x:Nat):Nat:=(e.r>>>(4*(e.c*s+x)))%16
def En.fi (e:En) (s:Nat):Bool:=e.f.testBit s
theorem En.Ia (e:En) (s x:Nat):e.to s x<16:=Nat.mod_lt _ (by decide)
structure Mc where
 c:Nat
 s0:Nat
 st:Nat→Nat→Nat
 fi:Nat→Bool
def Mc.run (m:Mc) (s:Nat) (w:List Nat):Nat:=w.foldl m.st s
def En.mc (e:En):Mc:=⟨e.c,0,e.to,e.fi⟩
def uH (v:Nat) (m:Mc) (p:Lg):Prop:= ∃h:Nat→Nat,(∀x,x<2^v→h x<m.c)∧ ∀w,iv (v:Int) w→p w=m.fi (m.run m.s0 (w.map h))
def fo {α:Type} (n:Nat) (k:Nat→α):α:=Nat.rec (motive:=fun _=>α) (k 0) (fun m _=>k (Nat.succ m)) n
theorem EF {α:Type} (n:Nat) (k:Nat→α):fo n k=k n:=by cases n<;>rfl
def uI (n:Nat) (p:Nat→Bool):Bool:=Nat.rec (motive:=fun _=>Bool) true (fun k ih=>cond (p k) ih false) n
theorem j6 {p:Nat→Bool}: ∀ {n:Nat},uI n p=true↔ ∀k,k<n→p k=true
 |0=>⟨fun _ k hk=>absurd hk (by omega),fun _=>rfl⟩
 |n+1=>by
  have ih:=j6 (p:=p) (n:=n)
  have e:uI (n+1) p=cond (p n) (uI n p) false:=rfl
  rw[e]
  cases h:p n with
  |false=>exact⟨fun h2=>Bool.noConfusion h2,fun h2=>by rw[h2 n (by omega)]at h;cases h⟩
  |true=>
   show uI n p=true↔_
   rw[ih]
   exact⟨fun h2 k hk=>(Nat.lt_succ_iff_lt_or_eq.1 hk).elim (h2 k) fun e=>e▸h,fun h2 k hk=>h2 k (by omega)⟩
noncomputable def z_ (l:List Nat) (x:Nat):Bool:=List.rec (motive:=fun _=>Bool) false (fun y _ ih=>cond (Nat.beq x y) true ih) l
theorem ru {x:Nat}: ∀ {l:List Nat},z_ l x=true↔x∈l
 | []=>by simp[z_]
 |y::l=>by
  have ih:=ru (x:=x) (l:=l)
  have e:z_ (y::l) x=cond (Nat.beq x y) true (z_ l x):=rfl
  rw[e]
  cases h:Nat.beq x y with
  |true=>have:=Nat.eq_of_beq_eq_true h;subst this;simp
  |false=>
   have h2:x≠y:=Nat.ne_of_beq_eq_false h
   show z_ l x=true↔_
   rw[ih];simp[h2]
noncomputable def yV (l:List Nat) (p:Nat→Bool):Bool:=List.rec (motive:=fun _=>Bool) true (fun y _ ih=>cond (p y) ih false) l
theorem vC {p:Nat→Bool}: ∀ {l:List Nat},yV l p=true↔ ∀x∈l,p x=true
 | []=>by simp[yV]
 |y::l=>by
  have ih:=vC (p:=p) (l:=l)
  have e:yV (y::l) p=cond (p y) (yV l p) false:=rfl
  rw[e]
  cases h:p y with
  |false=>simp[h]
  |true=>show yV l p=true↔_;rw[ih];simp[h]
noncomputable def N8 (c:Nat) (st:Nat→Nat→Nat) (n:Nat):List Nat→List Nat→List Nat:=
 Nat.rec (motive:=fun _=>List Nat→List Nat→List Nat) (fun _ seen=>seen) (fun _ ih todo seen=>
  List.rec (motive:=fun _=>List Nat) seen (fun s rest _=>
   (Nat.rec (motive:=fun _=>List Nat→List Nat→List Nat) (fun t sn=>ih t sn) (fun x k t sn=>fo (st s x) fun y=>cond (z_ sn y) (k t sn) (k (y::t) (y::sn))) c:List Nat→List Nat→List Nat) rest seen) todo) n
noncomputable def Xs (m:Mc) (e:En) (g:Nat) (L:List Nat):Bool:=
 z_ L (m.s0*16)&&yV L fun p=>((m.fi (p/16)==e.fi (p%16))&&uI m.c fun x=>fo (m.st (p/16) x*16+e.to (p%16) ((g>>>(4*x))%16)) (z_ L))
theorem Rm {m:Mc} {e:En} {g:Nat} {L:List Nat} (h:Xs m e g L=true): ∀ {w:List Nat} {s t:Nat},t<16→s*16+t∈L→(∀x∈w,x<m.c)→m.fi (m.run s w)=e.fi (e.mc.run t (w.map fun x=>(g>>>(4*x))%16)):=by
 unfold Xs at h
 rw[ay,vC]at h
 intro w
 induction w with
 |nil=>
  intro s t ht hm _
  have h2:=h.2 _ hm
  rw[ay]at h2
  have h3:=h2.1
  rw[show(s*16+t)/16=s by omega,show(s*16+t)%16=t by omega]at h3
  exact eq_of_beq h3
 |cons x w ih=>
  intro s t ht hm hw
  have h2:=h.2 _ hm
  rw[ay,j6]at h2
  have h3:=h2.2 x (hw x (by simp))
  rw[EF,ru,show(s*16+t)/16=s by omega,show(s*16+t)%16=t by omega]at h3
  exact ih (e.Ia _ _) h3 fun y hy=>hw y (by simp[hy])
theorem Ib {v:Nat} {m:Mc} {e:En} {g:Nat} {L:List Nat} {p:Lg} (h:Xs m e g L=true) (hg: ∀x,x<m.c→(g>>>(4*x))%16<e.c) (hr:uH v m p):uH v e.mc p:=by
 obtain⟨k,h1,h2⟩:=hr
 refine⟨fun x=>(g>>>(4*k x))%16,fun x hx=>hg _ (h1 x hx),fun w hw=>?_⟩
 have h0:m.s0*16+0∈L:=by
  unfold Xs at h;rw[ay]at h;exact ru.1 h.1
 rw[h2 w hw,Rm h (by decide) h0 (fun x hx=>by obtain⟨y,hy,rfl⟩:=List.mem_map.1 hx;exact h1 y (by simpa using hw y hy)),List.map_map]
 rfl
def yW (a:En):Mc:=⟨a.c,0,a.to,fun s=>!a.fi s⟩
def lQ (o:Bool→Bool→Bool) (a b:En):Mc:=⟨a.c*b.c,0,fun s z=>a.to (s/16) (z/b.c)*16+b.to (s%16) (z%b.c),fun s=>o (a.fi (s/16)) (b.fi (s%16))⟩
def Wz (b:En) (m y:Nat):Nat:=Nat.rec (motive:=fun _=>Nat) 0 (fun k ih=>ih|||cond (m.testBit k) (2^b.to k y) 0) 16
def WA (a:En) (p m:Nat):Nat:=p+16*(m|||(a.fi p).toNat)
def pk (a b:En):Mc:=⟨a.c*b.c,WA a 0 0,fun s z=>fo (a.to (s%16) (z/b.c)) fun p=>WA a p (Wz b (s/16) (z%b.c)),fun s=>!Nat.beq ((s/16)&&&b.f) 0⟩
def nY (a:En):Mc:=⟨a.c,65537,fun s z=>fo (Wz a s z) fun m=>m|||(!Nat.beq (m&&&a.f) 0).toNat,fun s=>s.testBit 16||!Nat.beq (s&&&a.f) 0⟩
theorem Ic {v:Nat} {a:En} {p:Lg} (h:uH v a.mc p):uH v (yW a) (fun u=>!p u):=by
 obtain⟨k,h1,h2⟩:=h
 exact⟨k,h1,fun w hw=>by show(!p w)=_;rw[h2 w hw];rfl⟩
theorem yX {x y a b:Nat} (hx:x<a) (hy:y<b):x*b+y<a*b:=by
 have:=Nat.mul_le_mul_right b (show x+1≤a by omega)
 rw[Nat.add_mul]at this;omega
theorem uJ {x y b:Nat} (hy:y<b):(x*b+y)/b=x∧(x*b+y)%b=y:=by
 have hb:0<b:=by omega
 refine⟨?_,?_⟩
 ·rw[Nat.mul_comm,Nat.mul_add_div hb,Nat.div_eq_of_lt hy];omega
 ·rw[Nat.mul_comm,Nat.mul_add_mod,Nat.mod_eq_of_lt hy]
theorem N_ (o:Bool→Bool→Bool) (a b:En) (h k:Nat→Nat): ∀(w:List Nat) {s t:Nat},(∀x∈w,k x<b.c)→t<16→(lQ o a b).run (s*16+t) (w.map fun x=>h x*b.c+k x)=a.mc.run s (w.map h)*16+b.mc.run t (w.map k)∧b.mc.run t (w.map k)<16
 | [],s,t,_,ht=>⟨F,ht⟩
 |x::w,s,t,hk,ht=>by
  have:=N_ o a b h k w (s:=a.to s (h x)) (t:=b.to t (k x)) (fun y hy=>hk y (by simp[hy])) (b.Ia _ _)
  obtain⟨e1,e2⟩:=uJ (x:=h x) (hk x (by simp))
  have e:(lQ o a b).st (s*16+t) (h x*b.c+k x)=a.to s (h x)*16+b.to t (k x):=by
   show a.to ((s*16+t)/16) _*16+b.to ((s*16+t)%16) _=_
   rw[e1,e2,show(s*16+t)/16=s by omega,show(s*16+t)%16=t by omega]
  unfold Mc.run at this⊢
  rw[cD,cP,e]
  exact this
theorem rv {v:Nat} {a b:En} {p q:Lg} (o:Bool→Bool→Bool) (ha:uH v a.mc p) (hb:uH v b.mc q):uH v (lQ o a b) (fun u=>o (p u) (q u)):=by
 obtain⟨h,h1,h2⟩:=ha
 obtain⟨k,k1,k2⟩:=hb
 refine⟨fun x=>h x*b.c+k x,fun x hx=>yX (h1 x hx) (k1 x hx),fun w hw=>?_⟩
 have:=N_ o a b h k w (s:=0) (t:=0) (fun x hx=>k1 x (by simpa using hw x hx)) (by decide)
 show o (p w) (q w)=o (a.fi ((lQ o a b).run 0 _/16)) (b.fi ((lQ o a b).run 0 _%16))
 have e:(lQ o a b).run 0 (w.map fun x=>h x*b.c+k x)=a.mc.run 0 (w.map h)*16+b.mc.run 0 (w.map k):=this.1
 rw[e,show(a.mc.run 0 (w.map h)*16+b.mc.run 0 (w.map k))/16=a.mc.run 0 (w.map h) by have:=this.2;omega,show(a.mc.run 0 (w.map h)*16+b.mc.run 0 (w.map k))%16=b.mc.run 0 (w.map k) by have:=this.2;omega,h2 w hw,k2 w hw]
 rfl
theorem Ie (b:En) (m y t:Nat): ∀n,(Nat.rec (motive:=fun _=>Nat) 0 (fun k ih=>ih|||cond (m.testBit k) (2^b.to k y) 0) n:Nat).testBit t=true↔ ∃q,q<n∧m.testBit q=true∧b.to q y=t
 |0=>by
  show(0:Nat).testBit t=true↔_
  simp
 |n+1=>by
  have ih:=Ie b m y t n
  show((Nat.rec (motive:=fun _=>Nat) 0 (fun k ih=>ih|||cond (m.testBit k) (2^b.to k y) 0) n:Nat)|||cond (m.testBit n) (2^b.to n y) 0).testBit t=true↔_
  rw[Nat.testBit_or,Bool.or_eq_true,ih]
  constructor
  ·rintro(⟨q,h1,h2⟩|h)
   ·exact⟨q,by omega,h2⟩
   ·cases hm:m.testBit n with
    |false=>rw[hm]at h;simp at h
    |true=>
     rw[hm]at h
     have h:(2^b.to n y).testBit t=true:=h
     rw[Nat.testBit_two_pow]at h
     exact⟨n,by omega,hm,by simpa using h⟩
  ·rintro⟨q,h1,h2,h3⟩
   rcases Nat.lt_succ_iff_lt_or_eq.1 h1 with c|rfl
   ·exact .inl ⟨q,c,h2,h3⟩
   ·refine .inr ?_
    rw[h2]
    show(2^b.to q y).testBit t=true
    rw[Nat.testBit_two_pow];simpa using h3
theorem Cl {b:En} {m y t:Nat}:(Wz b m y).testBit t=true↔ ∃q,q<16∧m.testBit q=true∧b.to q y=t:=Ie b m y t 16
theorem p8 (c:Bool) (t:Nat):c.toNat.testBit t=true↔c=true∧t=0:=by
 cases c with
 |false=>simp
 |true=>
  show(2^0).testBit t=true↔_
  rw[Nat.testBit_two_pow];simp[eq_comm]
theorem yY {m f:Nat}:(!Nat.beq (m&&&f) 0)=true↔ ∃q,m.testBit q=true∧f.testBit q=true:=by
 rw[Bool.not_eq_true']
 constructor
 ·intro h
  have h2:m&&&f≠0:=Nat.ne_of_beq_eq_false h
  obtain⟨q,hq⟩:=Nat.exists_testBit_of_ne_zero h2
  rw[Nat.testBit_and,ay]at hq
  exact⟨q,hq⟩
 ·rintro⟨q,h1,h2⟩
  cases hb:Nat.beq (m&&&f) 0 with
  |false=>rfl
  |true=>
   have h3:=Nat.eq_of_beq_eq_true hb
   have h4:(m&&&f).testBit q=true:=by rw[Nat.testBit_and,h1,h2];rfl
   rw[h3]at h4;simp at h4
theorem kH (m:Mc) (s:Nat) (w:List Nat) (x:Nat):m.run s (w++[x])=m.st (m.run s w) x:=by unfold Mc.run;rw[cO];rfl
theorem A6 (e:En): ∀ {w:List Nat},e.mc.run 0 w<16:=by
 intro w
 rcases List.eq_nil_or_concat w with rfl|⟨u,x,rfl⟩
 ·exact Nat.zero_lt_succ _
 ·rw[List.concat_eq_append,kH];exact e.Ia _ _
theorem tv {α:Type} {w u t:List α} {x:α} (h:w++[x]=u++t):(t=[]∧u=w++[x])∨ ∃t',t=t'++[x]∧w=u++t':=by
 rcases List.eq_nil_or_concat t with rfl|⟨t',y,rfl⟩
 ·exact .inl ⟨F,by simpa using h.symm⟩
 ·rw[List.concat_eq_append,←a6]at h
  have:=List.append_inj' h F
  refine .inr ⟨t',?_,this.1⟩
  rw[List.concat_eq_append,List.singleton_inj.1 this.2]
theorem EG {a b:En} {h k:Nat→Nat}: ∀(n:Nat) {w:List Nat},w.length=n→(∀x∈w,k x<b.c)→ ∃m,(pk a b).run (pk a b).s0 (w.map fun x=>h x*b.c+k x)=a.mc.run 0 (w.map h)+16*m∧ ∀q,m.testBit q=true↔ ∃u t,w=u++t∧a.fi (a.mc.run 0 (u.map h))=true∧b.mc.run 0 (t.map k)=q
 |0,w,hl,_=>by
  have:=List.length_eq_zero_iff.1 hl
  subst this
  refine⟨0|||(a.fi 0).toNat,F,fun q=>?_⟩
  rw[Nat.zero_or,p8]
  constructor
  ·rintro⟨h1,rfl⟩;exact⟨[],[],F,h1,F⟩
  ·rintro⟨u,t,e,h1,h2⟩
   have:=List.append_eq_nil_iff.1 e.symm
   obtain⟨rfl,rfl⟩:=this
   exact⟨h1,h2.symm⟩
 |n+1,w,hl,hk=>by
  rcases List.eq_nil_or_concat w with rfl|⟨w,x,rfl⟩
  ·cases hl
  rw[List.concat_eq_append]at hl hk⊢
  obtain⟨m,h1,h2⟩:=EG (a:=a) (b:=b) (h:=h) (k:=k) n (w:=w) (by simpa using hl) (fun y hy=>hk y (by simp[hy]))
  obtain⟨e1,e2⟩:=uJ (x:=h x) (hk x (by simp))
  have gw:=A6 a (w:=w.map h)
  obtain⟨P,hP⟩: ∃P,P=a.to (a.mc.run 0 (w.map h)) (h x):=⟨_,F⟩
  have e3:a.mc.run 0 ((w++[x]).map h)=P:=by rw[bj,List.map_singleton,kH,hP];rfl
  refine⟨Wz b m (k x)|||(a.fi P).toNat,?_,fun q=>?_⟩
  ·rw[e3,bj,List.map_singleton,kH,h1]
   show fo (a.to ((_+16*m)%16) _) (fun p=>WA a p (Wz b ((_+16*m)/16) _))=_
   rw[EF,e1,e2,show(a.mc.run 0 (w.map h)+16*m)%16=a.mc.run 0 (w.map h) by omega,show(a.mc.run 0 (w.map h)+16*m)/16=m by omega,←hP]
   rfl
  ·rw[Nat.testBit_or,Bool.or_eq_true,Cl,p8]
   constructor
   ·rintro(⟨r,_,hr,rfl⟩|⟨hf,rfl⟩)
    ·obtain⟨u,t,rfl,h3,h4⟩:=(h2 r).1 hr
     refine⟨u,t++[x],by simp,h3,?_⟩
     rw[bj,List.map_singleton,kH,h4];rfl
    ·exact⟨w++[x],[],by simp,by rw[e3];exact hf,F⟩
   ·rintro⟨u,t,e,h3,h4⟩
    rcases tv e with⟨rfl,rfl⟩|⟨t',rfl,rfl⟩
    ·rw[e3]at h3;exact .inr ⟨h3,h4.symm⟩
    ·refine .inl ⟨b.mc.run 0 (t'.map k),A6 b,(h2 _).2 ⟨u,t',F,h3,F⟩,?_⟩
     rw[←h4,bj,List.map_singleton,kH];rfl
theorem If {v:Nat} {a b:En} {p q:Lg} (ha:uH v a.mc p) (hb:uH v b.mc q):uH v (pk a b) (iA p q):=by
 obtain⟨h,h1,h2⟩:=ha
 obtain⟨k,k1,k2⟩:=hb
 refine⟨fun x=>h x*b.c+k x,fun x hx=>yX (h1 x hx) (k1 x hx),fun w hw=>?_⟩
 obtain⟨m,e1,e2⟩:=EG (a:=a) (b:=b) (h:=h) (k:=k) _ (w:=w) F (fun x hx=>k1 x (by simpa using hw x hx))
 rw[dB,e1]
 have gw:=A6 a (w:=w.map h)
 show _↔(!Nat.beq ((a.mc.run 0 (w.map h)+16*m)/16&&&b.f) 0)=true
 rw[show(a.mc.run 0 (w.map h)+16*m)/16=m by omega,yY,gN]
 constructor
 ·rintro⟨x,y,rfl,hx,hy⟩
  rw[h2 x (fun z hz=>hw z (by simp[hz]))]at hx
  rw[k2 y (fun z hz=>hw z (by simp[hz]))]at hy
  exact⟨_,(e2 _).2 ⟨x,y,F,hx,F⟩,hy⟩
 ·rintro⟨r,hr,hf⟩
  obtain⟨x,y,rfl,hx,rfl⟩:=(e2 r).1 hr
  refine⟨x,y,F,?_,?_⟩
  ·rw[h2 x (fun z hz=>hw z (by simp[hz]))];exact hx
  ·rw[k2 y (fun z hz=>hw z (by simp[hz]))];exact hf
theorem A7 {a:En} {h:Nat→Nat}: ∀(n:Nat) {w:List Nat},w.length=n→(((nY a).run 65537 (w.map h)).testBit 16=true↔w=[])∧ ∀q,q<16→(((nY a).run 65537 (w.map h)).testBit q=true↔ ∃u t,w=u++t∧iJ (fun z=>a.fi (a.mc.run 0 (z.map h))) u∧a.mc.run 0 (t.map h)=q)
 |0,w,hl=>by
  have:=List.length_eq_zero_iff.1 hl
  subst this
  refine⟨by simp[Mc.run];decide,fun q hq=>?_⟩
  have e:(65537:Nat)=2^16|||2^0:=by decide
  show(65537:Nat).testBit q=true↔_
  rw[e,Nat.testBit_or,Nat.testBit_two_pow,Nat.testBit_two_pow]
  simp only[Bool.or_eq_true,bT]
  constructor
  ·rintro(rfl|rfl)
   ·omega
   ·exact⟨[],[],F,.nil,F⟩
  ·rintro⟨u,t,e,h1,h2⟩
   obtain⟨rfl,rfl⟩:=List.append_eq_nil_iff.1 e.symm
   exact .inr h2
 |n+1,w,hl=>by
  rcases List.eq_nil_or_concat w with rfl|⟨w,x,rfl⟩
  ·cases hl
  rw[List.concat_eq_append]at hl⊢
  obtain⟨_,h2⟩:=A7 (a:=a) (h:=h) n (w:=w) (by simpa using hl)
  obtain⟨m,hm⟩: ∃m,m=Wz a ((nY a).run 65537 (w.map h)) (h x):=⟨_,F⟩
  have e1:(nY a).run 65537 ((w++[x]).map h)=m|||(!Nat.beq (m&&&a.f) 0).toNat:=by
   rw[bj,List.map_singleton,kH]
   show fo (Wz a ((nY a).run 65537 (w.map h)) (h x)) (fun m=>m|||(!Nat.beq (m&&&a.f) 0).toNat)=_
   rw[EF,←hm]
  have hb: ∀q,m.testBit q=true↔ ∃u t,w=u++t∧iJ (fun z=>a.fi (a.mc.run 0 (z.map h))) u∧a.mc.run 0 ((t++[x]).map h)=q:=fun q=>by
   rw[hm,Cl]
   constructor
   ·rintro⟨r,hr,h3,rfl⟩
    obtain⟨u,t,rfl,h4,h5⟩:=(h2 r hr).1 h3
    refine⟨u,t,F,h4,?_⟩
    rw[bj,List.map_singleton,kH,h5];rfl
   ·rintro⟨u,t,rfl,h4,h5⟩
    refine⟨a.mc.run 0 (t.map h),A6 a,(h2 _ (A6 a)).2 ⟨u,t,F,h4,F⟩,?_⟩
    rw[←h5,bj,List.map_singleton,kH];rfl
  have hs:(!Nat.beq (m&&&a.f) 0)=true↔iJ (fun z=>a.fi (a.mc.run 0 (z.map h))) (w++[x]):=by
   rw[yY]
   constructor
   ·rintro⟨q,h3,h4⟩
    obtain⟨u,t,rfl,h5,rfl⟩:=(hb q).1 h3
    rw[a6];exact h5.snoc h4
   ·intro hs
    obtain⟨u,t,e,h5,h6,h7⟩:=hs.last (by simp)
    rcases tv e with⟨rfl,_⟩|⟨t',rfl,rfl⟩
    ·exact absurd F h7
    ·exact⟨_,(hb _).2 ⟨u,t',F,h5,F⟩,h6⟩
  rw[e1]
  refine⟨?_,fun q hq=>?_⟩
  ·rw[Nat.testBit_or,Bool.or_eq_true,p8,hm,Cl]
   constructor
   ·rintro(⟨r,_,_,h3⟩|⟨_,h3⟩)
    ·have:=a.Ia r (h x);omega
    ·omega
   ·intro h3;simp at h3
  ·rw[Nat.testBit_or,Bool.or_eq_true,p8,hs,hb]
   constructor
   ·rintro(⟨u,t,rfl,h3,h4⟩|⟨h3,rfl⟩)
    ·exact⟨u,t++[x],by simp,h3,h4⟩
    ·exact⟨w++[x],[],by simp,h3,F⟩
   ·rintro⟨u,t,e,h3,h4⟩
    rcases tv e with⟨rfl,rfl⟩|⟨t',rfl,rfl⟩
    ·exact .inr ⟨h3,h4.symm⟩
    ·exact .inl ⟨u,t',F,h3,h4⟩
theorem iJ.congr {p q:Lg} {v:Int} (h: ∀w,iv v w→p w=q w): ∀ {w:List Nat},iv v w→iJ p w→iJ q w:=by
 intro w hw hs
 induction hs with
 |nil=>exact .nil
 |sJ h1 _ ih=>exact .sJ (by rw[←h _ (fun z hz=>hw z (by simp[hz]))];exact h1) (ih fun z hz=>hw z (by simp[hz]))
theorem EH {v:Nat} {a:En} (hf:a.f<65536) {p:Lg} (ha:uH v a.mc p):uH v (nY a) (qQ p):=by
 obtain⟨h,h1,h2⟩:=ha
 refine⟨h,h1,fun w hw=>?_⟩
 obtain⟨e1,e2⟩:=A7 (a:=a) (h:=h) _ (w:=w) F
 have ug: ∀q,a.f.testBit q=true→q<16:=fun q hq=>by
  rcases Nat.lt_or_ge q 16 with c|c
  ·exact c
  ·rw[Nat.testBit_lt_two_pow (eG hf (bV (by decide) c:(2^16:Nat)≤2^q))]at hq;cases hq
 rw[dB,rO]
 show _↔(((nY a).run 65537 (w.map h)).testBit 16||!Nat.beq ((nY a).run 65537 (w.map h)&&&a.f) 0)=true
 rw[Bool.or_eq_true,e1,yY]
 constructor
 ·intro hs
  by_cases hn:w=[]
  ·exact .inl hn
  ·obtain⟨u,t,rfl,h3,h4,_⟩:=(iJ.congr (fun u hu=>h2 u hu) hw hs).last hn
   exact .inr ⟨_,(e2 _ (A6 a)).2 ⟨u,t,F,h3,F⟩,h4⟩
 ·rintro(rfl|⟨q,h3,h4⟩)
  ·exact .nil
  ·obtain⟨u,t,rfl,h5,rfl⟩:=(e2 q (ug q h4)).1 h3
   exact iJ.congr (fun u hu=>(h2 u hu).symm) hw (h5.snoc h4)
theorem tw {v:Nat} (hv:v≤6) {m:Mc} {p:Lg} (hr:uH v m p) {L:List Nat} (h0:m.s0∈L) (hc: ∀s∈L,∀x,x<m.c→m.st s x∈L) (hn:L.length≤4096): ∃D,HasL (v:Int) L.length D p:=by
 obtain⟨h,h1,h2⟩:=hr
 have hp:0<L.length:=List.length_pos_of_mem h0
 have hl:(2:Nat)^((v:Int)).toNat=2^v:=by simp
 obtain⟨D,hD⟩: ∃D:cV,D=⟨(v:Int),((ix m.s0 L:Nat):Int),L.map (fun s=>(List.range (2^v)).map fun x=>((ix (m.st s (h x)) L:Nat):Int)),L.map m.fi⟩:=⟨_,F⟩
 have qy:D.next=L.map (fun s=>(List.range (2^v)).map fun x=>((ix (m.st s (h x)) L:Nat):Int)):=by rw[hD]
 have ig:D.next.length=L.length:=by rw[qy,ar]
 have hix:=sr h0
 have mT:Valid D:=by
  refine⟨⟨by rw[hD];exact Int.natCast_nonneg _,by rw[hD];show(v:Int)≤6;omega,by rw[ig];exact hp,by rw[ig,hD];simp,by rw[hD];exact Int.natCast_nonneg _,by rw[ig,hD];show((ix m.s0 L:Nat):Int)<_;omega,fun r hr=>?_,fun r hr x hx=>?_⟩,by rw[ig];exact hn⟩
  ·rw[qy]at hr
   obtain⟨s,_,rfl⟩:=List.mem_map.1 hr
   rw[hD];simp
  ·rw[qy]at hr
   obtain⟨s,hs,rfl⟩:=List.mem_map.1 hr
   obtain⟨y,hy,rfl⟩:=List.mem_map.1 hx
   have:=sr (hc s hs (h y) (h1 y (List.mem_range.1 hy)))
   exact⟨Int.natCast_nonneg _,by rw[ig];omega⟩
 refine⟨D,mT,by rw[ig];exact aS _,by rw[hD],fun w hw=>?_⟩
 have run: ∀(u:List Nat) {s:Nat},s∈L→iv (v:Int) u→runN D (ix s L) u=ix (m.run s (u.map h)) L∧m.run s (u.map h)∈L:=by
  intro u
  induction u with
  |nil=>exact fun hs _=>⟨F,hs⟩
  |cons x u ih=>
   intro s hs hu
   have hx:x<2^v:=by have:=hu x (by simp);rwa[hl]at this
   have hm:=hc s hs (h x) (h1 x hx)
   have ht:eS D (ix s L) x=ix (m.st s (h x)) L:=by
    unfold eS
    simp only[qy,az,bi,pY hs,Option.map_some,Option.getD_some,List.getElem?_range hx,Int.toNat_natCast]
   have:=ih hm fun y hy=>hu y (by simp[hy])
   unfold runN Mc.run at this⊢
   rw[cD,cP,cP,ht]
   exact this
 obtain⟨e1,e2⟩:=run w h0 hw
 unfold iH
 have e0:D.start.toNat=ix m.s0 L:=by rw[hD];rfl
 rw[e0,e1,h2 w hw]
 unfold dF
 have e3:D.a7=L.map m.fi:=by rw[hD]
 rw[e3,az,bi,pY e2]
 rfl
def adG:List En:=[⟨1,1,0x0,0⟩,⟨1,2,0x11,1⟩,⟨2,3,0x222221,2⟩,⟨1,1,0x0,1⟩,⟨1,2,0x11,2⟩,⟨2,3,0x222221,5⟩,⟨2,2,0x1110,1⟩,⟨2,2,0x1110,2⟩,⟨4,4,0x2222222232322211,8⟩,⟨2,3,0x222221,3⟩,⟨4,4,0x2222222232322211,7⟩,⟨2,3,0x222221,4⟩,⟨2,3,0x222121,5⟩,⟨4,3,0x222220202211,1⟩,⟨2,3,0x221121,2⟩,⟨2,4,0x33223321,8⟩,⟨4,5,0x44444444222243432211,18⟩,⟨4,3,0x222221212211,2⟩,⟨2,3,0x111121,3⟩,⟨3,4,0x333333331321,7⟩,⟨2,3,0x111121,4⟩,⟨2,2,0x1010,2⟩,⟨2,3,0x212111,4⟩,⟨4,5,0x43434343444444444321,10⟩,⟨4,4,0x3333333332103210,6⟩,⟨2,3,0x222121,2⟩,⟨4,3,0x222220202211,6⟩,⟨2,3,0x221121,5⟩,⟨2,4,0x33223321,7⟩,⟨4,5,0x44444444222243432211,13⟩,⟨4,3,0x222221212211,5⟩,⟨3,4,0x333333331321,8⟩,⟨2,2,0x1010,1⟩,⟨2,3,0x212111,3⟩,⟨4,5,0x43434343444444444321,21⟩,⟨4,4,0x3333333332103210,9⟩,⟨2,3,0x221121,3⟩,⟨2,4,0x33223321,9⟩,⟨3,5,0x333333222433221,11⟩,⟨3,3,0x222211221,3⟩,⟨2,3,0x212111,5⟩,⟨3,4,0x331333331321,3⟩,⟨3,3,0x222210210,1⟩,⟨4,4,0x3333222231312211,8⟩,⟨8,5,0x2222222242424242222222223322332222221111,16⟩,⟨4,4,0x2222222232322211,10⟩,⟨4,4,0x2222222232322211,9⟩,⟨3,4,0x323222323321,6⟩,⟨8,5,0x4444444442424242444444444242424244332211,6⟩,⟨1,3,0x221,4⟩,⟨4,3,0x222221212100,3⟩,⟨4,4,0x3333323233113210,7⟩,⟨3,4,0x323222323321,9⟩,⟨3,4,0x333322322321,5⟩,⟨4,3,0x212121211100,4⟩,⟨4,5,0x44444444434343434321,10⟩,⟨2,3,0x221121,4⟩,⟨2,4,0x33223321,6⟩,⟨3,5,0x333333222433221,20⟩,⟨3,3,0x222211221,4⟩,⟨2,3,0x212111,2⟩,⟨3,4,0x331333331321,12⟩,⟨3,3,0x222210210,6⟩,⟨4,4,0x3333222231312211,7⟩,⟨8,5,0x2222222242424242222222223322332222221111,15⟩,⟨4,4,0x2222222232322211,5⟩,⟨4,4,0x2222222232322211,6⟩,⟨8,5,0x4444444442424242444444444242424244332211,25⟩,⟨1,3,0x221,3⟩,⟨4,3,0x222221212100,4⟩,⟨4,4,0x3333323233113210,8⟩,⟨3,4,0x333322322321,10⟩,⟨4,3,0x212121211100,3⟩,⟨4,5,0x44444444434343434321,21⟩,⟨4,4,0x3333222230302211,5⟩,⟨3,4,0x333333331321,9⟩,⟨4,4,0x3030022000003210,5⟩,⟨4,4,0x3333222231312211,9⟩,⟨8,4,0x20202020222222223322332222221111,1⟩,⟨3,3,0x222201221,3⟩,⟨3,3,0x212111210,3⟩,⟨8,4,0x33333333303030303021110033221100,3⟩,⟨1,3,0x221,5⟩,⟨4,4,0x3232323222112211,9⟩,⟨3,3,0x222220210,1⟩,⟨8,6,0x444444444444444454545454222222224433443322221111,26⟩,⟨4,5,0x44444444222243432211,16⟩,⟨4,5,0x44444343222243432211,18⟩,⟨8,4,0x21212121222222223322332222221111,2⟩,⟨4,4,0x3333222232322211,8⟩,⟨4,5,0x44444444222232322211,16⟩,⟨8,6,0x555555555555555554545454222222223322332222221111,40⟩,⟨8,4,0x32323232222222223322332222221111,8⟩,⟨4,5,0x33333333222243432211,10⟩,⟨6,5,0x222222232232222222432432222111,26⟩,⟨4,4,0x3131222231312211,8⟩,⟨4,5,0x43434343222233332211,16⟩,⟨8,7,0x65656565656565656666666666666666222222226543654322221111,40⟩,⟨8,5,0x2222222243214321222222224321432122221111,24⟩,⟨4,5,0x44444444222243432211,19⟩,⟨4,3,0x222221212211,3⟩,⟨2,3,0x111121,5⟩,⟨4,5,0x43434343444444444321,11⟩,⟨4,4,0x3333333332103210,5⟩,⟨2,3,0x111121,2⟩,⟨3,4,0x323222323321,7⟩,⟨8,6,0x443344334444444454545454444444445454545444332211,39⟩,⟨3,4,0x333333111321,6⟩,⟨4,5,0x44441111444411114321,6⟩,⟨6,6,0x555555555555333333333333545454332211,38⟩,⟨6,4,0x333333333333313131332211,6⟩,⟨3,3,0x221221211,2⟩,⟨4,3,0x212121212211,2⟩,⟨6,5,0x444242444444444242444444432211,6⟩,⟨6,5,0x444444434231444444434231432211,6⟩,⟨4,4,0x3120110031201100,12⟩,⟨2,3,0x222111,4⟩,⟨4,5,0x42312211423122111111,24⟩,⟨8,7,0x54635463443344334433443354635463444444445454545444332211,96⟩,⟨8,8,0x3333333373737373736251403322110033333333737373737362514033221100,240⟩,⟨3,3,0x222222210,3⟩,⟨8,6,0x444444444444444454545454444422225454222244332211,39⟩,⟨3,3,0x222211210,2⟩,⟨2,3,0x222210,4⟩,⟨3,3,0x222221211,3⟩,⟨8,7,0x44444444444444444433443344334433645364536453645344332211,42⟩,⟨4,4,0x3232323222222211,8⟩,⟨4,5,0x43434343442244224321,10⟩,⟨8,5,0x4444444444444444404040404040404044332211,10⟩,⟨4,5,0x22222222212121214321,10⟩,⟨6,7,0x666666666666656565656565656521656521654321,42⟩,⟨4,4,0x1111313111112211,8⟩]
def mK (i:Nat):En:=adG.getD i ⟨0,0,0,0⟩
def J5:List (List Nat):=[[],[0,1,2],[1,3,4,5,6],[0,1,2,3,4,5,6,7,8,9],[0,1,2,3,4,5,6,7,9,10,11,12,13,14,15,16,17,18,19,20,21,22,23,24],[0,1,2,3,4,5,6,7,8,9,11,12,13,14,15,16,17,18,19,20,21,22,23,24,25,26,27,28,29,30,31,32,33,34,35,36,37,38,39,40,41,42,43,44,45,46,47,48,49,50,51,52,53,54,55],[0,1,2,3,4,5,6,7,8,9,10,11,12,13,14,15,16,17,18,19,20,21,22,23,24,25,26,27,28,29,30,31,32,33,34,35,36,37,38,39,40,41,42,43,45,46,47,49,50,51,52,53,54,55,56,57,58,59,60,61,62,63,64,65,66,67,68,69,70,71,72,73,74,75,76,77,78,79,80,81,82,83,84,85,86,87,88,89,90,91,92,93,94,95,96,97,98,99,100,101,102,103,104,105,106,107,108,109,110,111,112,113,114,115,116,117,118,119,120,121,122,123,124,125,126,127,128,129,130,131]]
def un2:List (List Nat):=[[3,4,4101],[1,1,4102]]
def un3:List (List Nat):=[[4,0,1,4098,4103],[1,3,3,4101,4102]]
def ca3:List (List (List Nat)):=[[[0,0,0],[0,1,4098],[0,4098,2294024]]]
def or3:List (List (List Nat)):=[[[0,1,4098],[1,1,4105],[4098,4105,1048578]]]
def an3:List (List (List Nat)):=[[[0,0,0],[0,1,0],[0,0,1118210]]]
def un4:List (List Nat):=[[3,4,4101,0,1,4098,4103,4102,3280906,4107],[1,1,4102,3,3,4101,4102,4108,2294029,4102]]
def ca4:List (List (List Nat)):=[[[0,0,0,0,0],[1,3,4,4101,4102],[4098,4110,4111,3280912,3280913]],[[0,1,4098],[0,3,277],[0,4,278],[0,4101,3280919],[0,4102,3277080]]]
def or4:List (List (List Nat)):=[[[1,3,4,4101,4102],[1,3,3,4101,4102],[4105,3,4,65554,2101267]]]
def an4:List (List (List Nat)):=[[[0,0,0,0,0],[1,1,0,1,1],[0,4098,4098,4116,1118210]]]
def un5:List (List Nat):=[[3,4,4101,0,1,4098,4103,4102,4107,3280904,4105,4121,3280922,4123,4124,3280925,3280926,4116,135199,4114,4128,4129,3280930,3280931],[1,1,4102,3,3,4101,4102,4108,4102,3,4101,4108,3280909,4132,4133,1179686,2162727,4114,65542,262,288,4136,2101289,2097450]]
def ca5:List (List (List Nat)):=[[[0,0,0,0,0,0,0,0,0,0],[0,1,4098,3,4,4101,4102,4103,3280904,4105],[0,4098,2294024,4110,4111,3280912,3280913,3280939,362758025772,2294061]],[[1,3,4,4101,4102],[3,3,4,3,3],[4,4,49,4,4],[4101,3,4,1118213,4114],[4102,3,4,65554,3280946]],[[0,0,0],[0,1,4098],[0,4098,2294024],[0,3,277],[0,4,278],[0,4101,3280919],[0,4102,3277080],[0,4103,2294070],[0,3280904,443541553452],[0,4105,3280951]]]
def or5:List (List (List Nat)):=[[[0,1,4098,3,4,4101,4102,4103,3280904,4105],[1,1,4105,3,3,4101,4102,4108,3280942,4105],[4098,4105,1048578,3,4,65554,2101267,1183791,443541553456,1048585]],[[1,3,3,4101,4102],[3,3,3,3,3],[3,3,4,3,3],[4101,3,3,1118213,4114],[4102,3,3,65554,3280947]]]
def an5:List (List (List Nat)):=[[[0,0,0,0,0,0,0,0,0,0],[0,1,0,1,0,1,1,0,0,1],[0,0,1118210,4098,4098,4116,1118210,4116,0,1118210]],[[1,1,0,1,1],[1,3,4,4101,4102],[0,4,4,4107,4121],[1,4101,4107,1048581,1183796],[1,4102,4121,2232373,1118214]]]
def un6:List (List Nat):=[[3,4,4101,0,1,4098,4103,4102,3280906,4107,4105,4121,3280922,4123,4124,3280925,3280926,4116,135199,4114,4128,4129,3280930,3280931,4108,3280909,4110,4111,3280912,3280913,135187,4117,4118,3280919,3280920,4152,4153,135226,135227,4156,135229,135230,3280959,508218708032,3280961,3280962,135220,508218708035,68,3280965,3280966,135215,135239,3280968,3280969],[1,1,4102,3,3,4101,4102,4108,2294029,4102,4101,4108,3280909,4132,4133,1179686,2162727,4114,65542,262,288,4136,2101289,2097450,4102,3,4123,3,3280970,3280926,135243,4128,3,205132,3280931,4132,4133,135206,135207,4136,135209,135210,3280973,443541553486,1179727,2294029,135248,508216488529,82,1048582,1048582,135220,135221,3280979,2101332]]
def ca6:List (List (List Nat)):=[[[0,0,0,0,0,0,0,0,0,0,0,0,0,0,0,0,0,0,0,0,0,0,0,0],[0,1,4098,3,4,4101,4102,4103,4105,3280906,4107,4108,3280909,4110,4111,3280912,3280913,4114,135187,4116,4117,4118,3280919,3280920],[0,4098,2294024,4110,4111,3280912,3280913,3280939,2294061,508218708053,3280982,3280983,362758025816,2294105,2294106,362758025819,298080871260,3280989,893395294,3280904,3280991,3280992,508218708065,375341129826]],[[0,1,4098,3,4,4101,4102,4103,3280904,4105],[0,3,277,3,4,3,3,4103,1061491,3],[0,4,278,4,49,4,4,4212,1061493,4],[0,4101,3280919,3,4,1118213,4114,1052679,508218708086,4114],[0,4102,3277080,3,4,65554,3280946,1052679,508216488567,2162808]],[[0,0,0,0,0],[1,3,4,4101,4102],[4098,4110,4111,3280912,3280913],[3,3,4,3,3],[4,4,49,4,4],[4101,3,4,1118213,4114],[4102,3,4,65554,3280946],[4103,4103,4219,1114119,1114119],[3280904,3280985,3280986,508218708059,443541553500],[4105,3,4,65554,2101372]],[[0,0,0],[0,1,4098],[0,4098,2294024],[0,3,277],[0,4,278],[0,4101,3280919],[0,4102,3277080],[0,4103,2294070],[0,4105,3280951],[0,3280906,504192114813],[0,4107,2294142],[0,4108,3281023],[0,3280909,504192114816],[0,4110,2294111],[0,4111,2294112],[0,3280912,508218708065],[0,3280913,374837805666],[0,4114,3281025],[0,135187,1412567170],[0,4116,2294147],[0,4117,2294131],[0,4118,2294133],[0,3280919,443541553526],[0,3280920,443541553527]]]
def or6:List (List (List Nat)):=[[[0,1,4098,3,4,4101,4102,4103,4105,3280906,4107,4108,3280909,4110,4111,3280912,3280913,4114,135187,4116,4117,4118,3280919,3280920],[1,1,4105,3,3,4101,4102,4108,4105,3280906,4101,4108,3280909,4132,4133,3280995,3280996,4114,135187,4197,288,4136,3280998,3277159],[4098,4105,1048578,3,4,65554,2101267,1183791,1048585,215020081162,65640,1183849,443541553514,2101355,3281004,361048969325,361048969326,1048594,553717779,65538,131439,2294128,353264341105,352257704306]],[[1,1,4105,3,3,4101,4102,4108,3280942,4105],[3,3,3,3,3,3,3,3,3,3],[4,3,4,3,4,3,3,4,4,3],[4101,4101,4114,3,3,1118213,4114,1118213,73299656709,4114],[4102,4102,2162707,3,3,65554,3280947,1183824,508218708089,2162707]]]
def an6:List (List (List Nat)):=[[[0,0,0,0,0,0,0,0,0,0,0,0,0,0,0,0,0,0,0,0,0,0,0,0],[0,1,0,1,0,1,1,0,1,1,0,1,1,0,0,0,0,1,1,0,0,0,0,0],[0,0,1118210,4098,4098,4116,1118210,4116,1118210,73299656706,4116,4116,0,1118210,0,73300770818,73300770818,1118210,286326786,4116,4116,0,73300709378,69652]],[[0,1,0,1,0,1,1,0,0,1],[0,1,4098,3,4,4101,4102,4103,3280904,4105],[0,0,4098,4,4,4107,4121,4103,3280904,4098],[0,1,65556,4101,4107,1048581,1183796,2101279,215020081160,65637],[0,1,1118210,4102,4121,2232373,1118214,2232442,146602594312,1118217]]]
def Pm (k:Nat) (e:En):Prop:= ∃i∈J5.getD k [],e=mK i
def adI (k i:Nat):Bool:=(J5.getD k []).contains i
noncomputable def okT (k:Nat) (m:Mc) (ct:Nat):Bool:=
 adI k (ct%256)&&(uI m.c (fun x=>Nat.blt (((ct/256)>>>(4*x))%16) (mK (ct%256)).c)&&Xs m (mK (ct%256)) (ct/256) (N8 m.c (fun s x=>m.st (s/16) x*16+(mK (ct%256)).to (s%16) (((ct/256)>>>(4*x))%16)) 40 [m.s0*16] [m.s0*16]))
def Gz {α β:Type} (p:α→β→Bool):List α→List β→Bool
 | [],_=>true
 |x::l,y::m=>p x y&&Gz p l m
 |_::_,[]=>false
theorem uK {α β:Type} {p:α→β→Bool}: ∀ {l:List α} {m:List β},Gz p l m=true→ ∀x∈l,∃y,p x y=true
 | [],_,_,x,hx=>by simp at hx
 |_::_,[],h,_,_=>by simp[Gz]at h
 |a::l,y::m,h,x,hx=>by
  simp only[Gz,ay]at h
  rcases List.mem_cons.1 hx with rfl|hx
  ·exact⟨y,h.1⟩
  ·exact uK h.2 x hx
theorem Ig {v k:Nat} {m:Mc} {p:Lg} {ct:Nat} (h:okT k m ct=true) (hr:uH v m p): ∃e,Pm k e∧uH v e.mc p:=by
 unfold okT at h
 rw[ay,ay,j6]at h
 refine⟨mK (ct%256),⟨_,?_,F⟩,Ib h.2.2 (fun x hx=>by have:=h.2.1 x hx;exact Nat.le_of_ble_eq_true this) hr⟩
 exact List.contains_iff_mem.1 h.1
noncomputable def J6 (k:Nat) (f:En→Mc) (cs:List Nat):Bool:=Gz (fun i ct=>okT (k+1) (f (mK i)) ct) (J5.getD k []) cs
noncomputable def wF (i j:Nat) (f:En→En→Mc) (cs:List (List Nat)):Bool:=Gz (fun x row=>Gz (fun y ct=>okT (i+j+1) (f (mK x) (mK y)) ct) (J5.getD j []) row) (J5.getD i []) cs
theorem Ih {v k:Nat} {f:En→Mc} {cs:List Nat} (h:J6 k f cs=true) {e:En} (he:Pm k e) {p:Lg} (hr:uH v (f e) p): ∃e,Pm (k+1) e∧uH v e.mc p:=by
 obtain⟨i,hi,rfl⟩:=he
 obtain⟨ct,h1⟩:=uK h i hi
 exact Ig h1 hr
theorem uL {v i j:Nat} {f:En→En→Mc} {cs:List (List Nat)} (h:wF i j f cs=true) {a b:En} (ha:Pm i a) (hb:Pm j b) {p:Lg} (hr:uH v (f a b) p): ∃e,Pm (i+j+1) e∧uH v e.mc p:=by
 obtain⟨x,hx,rfl⟩:=ha
 obtain⟨y,hy,rfl⟩:=hb
 obtain⟨row,h1⟩:=uK h x hx
 obtain⟨ct,h2⟩:=uK h1 y hy
 exact Ig h2 hr
set_option maxRecDepth 100000
theorem tn2:J6 1 yW (un2.getD 0 [])=true:=by kernel_rfl
theorem ts2:J6 1 nY (un2.getD 1 [])=true:=by kernel_rfl
theorem tn3:J6 2 yW (un3.getD 0 [])=true:=by kernel_rfl
theorem ts3:J6 2 nY (un3.getD 1 [])=true:=by kernel_rfl
theorem adJ:wF 1 1 pk (ca3.getD 0 [])=true:=by kernel_rfl
theorem adK:wF 1 1 (lQ or) (or3.getD 0 [])=true:=by kernel_rfl
theorem adL:wF 1 1 (lQ and) (an3.getD 0 [])=true:=by kernel_rfl
theorem tn4:J6 3 yW (un4.getD 0 [])=true:=by kernel_rfl
theorem ts4:J6 3 nY (un4.getD 1 [])=true:=by kernel_rfl
theorem adM:wF 1 2 pk (ca4.getD 0 [])=true:=by kernel_rfl
theorem adN:wF 1 2 (lQ or) (or4.getD 0 [])=true:=by kernel_rfl
theorem adO:wF 1 2 (lQ and) (an4.getD 0 [])=true:=by kernel_rfl
theorem adP:wF 2 1 pk (ca4.getD 1 [])=true:=by kernel_rfl
theorem tn5:J6 4 yW (un5.getD 0 [])=true:=by kernel_rfl
theorem ts5:J6 4 nY (un5.getD 1 [])=true:=by kernel_rfl
theorem adQ:wF 1 3 pk (ca5.getD 0 [])=true:=by kernel_rfl
theorem adR:wF 1 3 (lQ or) (or5.getD 0 [])=true:=by kernel_rfl
theorem adS:wF 1 3 (lQ and) (an5.getD 0 [])=true:=by kernel_rfl
theorem adT:wF 2 2 pk (ca5.getD 1 [])=true:=by kernel_rfl
theorem adU:wF 2 2 (lQ or) (or5.getD 1 [])=true:=by kernel_rfl
theorem adV:wF 2 2 (lQ and) (an5.getD 1 [])=true:=by kernel_rfl
theorem adW:wF 3 1 pk (ca5.getD 2 [])=true:=by kernel_rfl
theorem tn6:J6 5 yW (un6.getD 0 [])=true:=by kernel_rfl
theorem ts6:J6 5 nY (un6.getD 1 [])=true:=by kernel_rfl
theorem adX:wF 1 4 pk (ca6.getD 0 [])=true:=by kernel_rfl
theorem adY:wF 1 4 (lQ or) (or6.getD 0 [])=true:=by kernel_rfl
theorem adZ:wF 1 4 (lQ and) (an6.getD 0 [])=true:=by kernel_rfl
theorem ad0:wF 2 3 pk (ca6.getD 1 [])=true:=by kernel_rfl
theorem ad1:wF 2 3 (lQ or) (or6.getD 1 [])=true:=by kernel_rfl
theorem ad2:wF 2 3 (lQ and) (an6.getD 1 [])=true:=by kernel_rfl
theorem ad3:wF 3 2 pk (ca6.getD 2 [])=true:=by kernel_rfl
theorem ad4:wF 4 1 pk (ca6.getD 3 [])=true:=by kernel_rfl
theorem tcA {i j:Nat} (hi:1≤i) (hj:1≤j) (h:i+j≤5): ∃cs,wF i j pk cs=true:=by
 rcases(show(i=1∧j=1)∨(i=1∧j=2)∨(i=2∧j=1)∨(i=1∧j=3)∨(i=2∧j=2)∨(i=3∧j=1)∨(i=1∧j=4)∨(i=2∧j=3)∨(i=3∧j=2)∨(i=4∧j=1) by omega)with⟨rfl,rfl⟩|⟨rfl,rfl⟩|⟨rfl,rfl⟩|⟨rfl,rfl⟩|⟨rfl,rfl⟩|⟨rfl,rfl⟩|⟨rfl,rfl⟩|⟨rfl,rfl⟩|⟨rfl,rfl⟩|⟨rfl,rfl⟩
 ·exact⟨_,adJ⟩
 ·exact⟨_,adM⟩
 ·exact⟨_,adP⟩
 ·exact⟨_,adQ⟩
 ·exact⟨_,adT⟩
 ·exact⟨_,adW⟩
 ·exact⟨_,adX⟩
 ·exact⟨_,ad0⟩
 ·exact⟨_,ad3⟩
 ·exact⟨_,ad4⟩
theorem toA {i j:Nat} (hi:1≤i) (hj:1≤j) (KD:i≤j) (h:i+j≤5): ∃cs,wF i j (lQ or) cs=true:=by
 rcases(show(i=1∧j=1)∨(i=1∧j=2)∨(i=1∧j=3)∨(i=2∧j=2)∨(i=1∧j=4)∨(i=2∧j=3) by omega)with⟨rfl,rfl⟩|⟨rfl,rfl⟩|⟨rfl,rfl⟩|⟨rfl,rfl⟩|⟨rfl,rfl⟩|⟨rfl,rfl⟩
 ·exact⟨_,adK⟩
 ·exact⟨_,adN⟩
 ·exact⟨_,adR⟩
 ·exact⟨_,adU⟩
 ·exact⟨_,adY⟩
 ·exact⟨_,ad1⟩
theorem taA {i j:Nat} (hi:1≤i) (hj:1≤j) (KD:i≤j) (h:i+j≤5): ∃cs,wF i j (lQ and) cs=true:=by
 rcases(show(i=1∧j=1)∨(i=1∧j=2)∨(i=1∧j=3)∨(i=2∧j=2)∨(i=1∧j=4)∨(i=2∧j=3) by omega)with⟨rfl,rfl⟩|⟨rfl,rfl⟩|⟨rfl,rfl⟩|⟨rfl,rfl⟩|⟨rfl,rfl⟩|⟨rfl,rfl⟩
 ·exact⟨_,adL⟩
 ·exact⟨_,adO⟩
 ·exact⟨_,adS⟩
 ·exact⟨_,adV⟩
 ·exact⟨_,adZ⟩
 ·exact⟨_,ad2⟩
theorem tnA {k:Nat} (hk:1≤k) (h:k≤5): ∃cs,J6 k yW cs=true:=by
 rcases(show k=1∨k=2∨k=3∨k=4∨k=5 by omega)with rfl|rfl|rfl|rfl|rfl
 ·exact⟨_,tn2⟩
 ·exact⟨_,tn3⟩
 ·exact⟨_,tn4⟩
 ·exact⟨_,tn5⟩
 ·exact⟨_,tn6⟩
theorem tsA {k:Nat} (hk:1≤k) (h:k≤5): ∃cs,J6 k nY cs=true:=by
 rcases(show k=1∨k=2∨k=3∨k=4∨k=5 by omega)with rfl|rfl|rfl|rfl|rfl
 ·exact⟨_,ts2⟩
 ·exact⟨_,ts3⟩
 ·exact⟨_,ts4⟩
 ·exact⟨_,ts5⟩
 ·exact⟨_,ts6⟩
def tq (k:Nat):Nat:=[0,3,3,4,5,5,8,11].getD k 0
theorem aaJ:((List.range 7).all fun k=>(J5.getD k []).all fun i=>Nat.blt (mK i).f 65536&&(Nat.ble (mK i).n (tq k)&&(Nat.blt 0 (mK i).n&&uI (mK i).n fun s=>uI (mK i).c fun x=>Nat.blt ((mK i).to s x) (mK i).n)))=true:=by kernel_rfl
theorem vE {k:Nat} {e:En} (h:Pm k e) (hk:k≤6):e.f<65536∧e.n≤tq k∧0<e.n∧ ∀s,s<e.n→ ∀x,x<e.c→e.to s x<e.n:=by
 obtain⟨i,hi,rfl⟩:=h
 have h1:=List.all_eq_true.1 (List.all_eq_true.1 aaJ k (List.mem_range.2 (by omega))) i hi
 rw[ay,ay,ay,j6]at h1
 exact⟨Nat.le_of_ble_eq_true h1.1,Nat.le_of_ble_eq_true h1.2.1,Nat.le_of_ble_eq_true h1.2.2.1,fun s hs x hx=>Nat.le_of_ble_eq_true (j6.1 (h1.2.2.2 s hs) x hx)⟩
theorem Ii {v:Nat} (hv:v≤6) {e:En} {p:Lg} (hr:uH v e.mc p) {n:Nat} (hn:e.n≤n) (h1:n≤4096) (h0:0<e.n) (hc: ∀s,s<e.n→ ∀x,x<e.c→e.to s x<e.n): ∃D,HasL (v:Int) n D p:=by
 obtain⟨D,hD⟩:=tw hv hr (L:=List.range e.n) (List.mem_range.2 h0) (fun s hs x hx=>List.mem_range.2 (hc s (List.mem_range.1 hs) x hx)) (by simp;omega)
 exact⟨D,hD.le (bo hD.len (by simpa using hn))⟩
theorem Oa {v:Nat}:uH v (mK 0).mc (fx .none):=⟨fun _=>0,fun _ _=>(by decide:0<(mK 0).c),fun w _=>(Nat.zero_testBit _).symm⟩
theorem J7 {v:Nat}:uH v (mK 1).mc (fx .empty):=by
 refine⟨fun _=>0,fun _ _=>(by decide:0<(mK 1).c),fun w _=>?_⟩
 have t0:(mK 1).to 0 0=1:=by decide
 have t1:(mK 1).to 1 0=1:=by decide
 have f0:(mK 1).fi 0=true:=by decide
 have f1:(mK 1).fi 1=false:=by decide
 cases w with
 |nil=>exact f0.symm
 |cons x w=>
  have: ∀w:List Nat,(mK 1).mc.run 1 (w.map fun _=>0)=1:=by
   intro w
   induction w with
   |nil=>rfl
   |cons x w ih=>
    show(mK 1).mc.run ((mK 1).to 1 0) (w.map fun _=>0)=1
    rw[t1];exact ih
  show _=(mK 1).fi ((mK 1).mc.run ((mK 1).to 0 0) (w.map fun _=>0))
  rw[t0,this,f1]
  rfl
theorem GA {v p n:Nat}:uH v (mK 2).mc (fx (.letter p n)):=by
 have t0: ∀c:Bool,(mK 2).to 0 (cond c 0 1)=cond c 1 2:=by decide
 have t1: ∀c:Bool,(mK 2).to 1 (cond c 0 1)=2:=by decide
 have t2: ∀c:Bool,(mK 2).to 2 (cond c 0 1)=2:=by decide
 have f0:(mK 2).fi 0=false:=by decide
 have f1: ∀c:Bool,(mK 2).fi (cond c 1 2)=c:=by decide
 have f2:(mK 2).fi 2=false:=by decide
 have hc: ∀c:Bool,cond c 0 1<(mK 2).c:=by decide
 refine⟨fun x=>cond (fY p n x) 0 1,fun x _=>hc _,fun w _=>?_⟩
 have h2: ∀w:List Nat,(mK 2).mc.run 2 (w.map fun x=>cond (fY p n x) 0 1)=2:=by
  intro w
  induction w with
  |nil=>rfl
  |cons x w ih=>
   show(mK 2).mc.run ((mK 2).to 2 (cond (fY p n x) 0 1)) _=2
   rw[t2];exact ih
 show Ju 1 (fY p n) w=_
 cases w with
 |nil=>
  have e:Ju 1 (fY p n) []=false:=by simp[Ju]
  rw[e,fV]
  exact f0.symm
 |cons x w=>
  cases w with
  |nil=>
   show Ju 1 (fY p n) [x]=(mK 2).fi ((mK 2).to 0 (cond (fY p n x) 0 1))
   rw[t0,f1]
   simp[Ju]
  |cons y w=>
   show _=(mK 2).fi ((mK 2).mc.run ((mK 2).to ((mK 2).to 0 (cond (fY p n x) 0 1)) (cond (fY p n y) 0 1)) (w.map fun x=>cond (fY p n x) 0 1))
   have t3:(mK 2).to (cond (fY p n x) 1 2) (cond (fY p n y) 0 1)=2:=by
    cases fY p n x
    ·exact t2 _
    ·exact t1 _
   rw[t0,t3,h2,f2]
   simp[Ju]
def Rx.sz:Rx→Nat
 | .ie a b| .iu a b| .and a b=>a.sz+b.sz+1
 | .not a| .star a| .ahead a| .behind a=>a.sz+1
 |_=>1
theorem Rx.eU: ∀t:Rx,1≤t.sz
 | .none| .empty| .letter _ _=>aS _
 | .ie a b| .iu a b| .and a b=>bu _
 | .not a| .star a| .ahead a| .behind a=>bu _
theorem uH.to {v:Nat} {m:Mc} {p q:Lg} (h:uH v m p) (hq: ∀w,p w=q w):uH v m q:=by
 obtain⟨k,h1,h2⟩:=h
 exact⟨k,h1,fun w hw=>by rw[←hq];exact h2 w hw⟩
theorem ii {v:Nat}: ∀(t:Rx),t.plain=true→t.sz≤6→ ∃e,Pm t.sz e∧uH v e.mc (fx t)
 | .none,_,_=>⟨_,⟨0,(by decide:0∈J5.getD 1 []),F⟩,Oa⟩
 | .empty,_,_=>⟨_,⟨1,(by decide:1∈J5.getD 1 []),F⟩,J7⟩
 | .letter p n,_,_=>⟨_,⟨2,(by decide:2∈J5.getD 1 []),F⟩,GA⟩
 | .not a,hp,hs=>by
  have hs:a.sz+1≤6:=hs
  obtain⟨e,h1,h2⟩:=ii (v:=v) a hp (by omega)
  obtain⟨cs,hc⟩:=tnA a.eU (by omega)
  exact Ih hc h1 (Ic h2)
 | .star a,hp,hs=>by
  have hs:a.sz+1≤6:=hs
  obtain⟨e,h1,h2⟩:=ii (v:=v) a hp (by omega)
  obtain⟨cs,hc⟩:=tsA a.eU (by omega)
  exact Ih hc h1 (EH (vE h1 (by omega)).1 h2)
 | .ie a b,hp,hs=>by
  have hs:a.sz+b.sz+1≤6:=hs
  simp only[Rx.plain,ay]at hp
  obtain⟨e,h1,h2⟩:=ii (v:=v) a hp.1 (by omega)
  obtain⟨f,k1,k2⟩:=ii (v:=v) b hp.2 (by omega)
  obtain⟨cs,hc⟩:=tcA a.eU b.eU (by omega)
  exact uL hc h1 k1 (If h2 k2)
 | .iu a b,hp,hs=>by
  have hs:a.sz+b.sz+1≤6:=hs
  simp only[Rx.plain,ay]at hp
  obtain⟨e,h1,h2⟩:=ii (v:=v) a hp.1 (by omega)
  obtain⟨f,k1,k2⟩:=ii (v:=v) b hp.2 (by omega)
  rcases Nat.le_total a.sz b.sz with c|c
  ·obtain⟨cs,hc⟩:=toA a.eU b.eU c (by omega)
   exact uL hc h1 k1 (rv or h2 k2)
  ·obtain⟨cs,hc⟩:=toA b.eU a.eU c (by omega)
   have:=uL hc k1 h1 ((rv or k2 h2).to (q:=fx (.iu a b)) fun w=>Bool.or_comm _ _)
   rwa[show b.sz+a.sz+1=(Rx.iu a b).sz by show _=a.sz+b.sz+1;omega]at this
 | .and a b,hp,hs=>by
  have hs:a.sz+b.sz+1≤6:=hs
  simp only[Rx.plain,ay]at hp
  obtain⟨e,h1,h2⟩:=ii (v:=v) a hp.1 (by omega)
  obtain⟨f,k1,k2⟩:=ii (v:=v) b hp.2 (by omega)
  rcases Nat.le_total a.sz b.sz with c|c
  ·obtain⟨cs,hc⟩:=taA a.eU b.eU c (by omega)
   exact uL hc h1 k1 (rv and h2 k2)
  ·obtain⟨cs,hc⟩:=taA b.eU a.eU c (by omega)
   have:=uL hc k1 h1 ((rv and k2 h2).to (q:=fx (.and a b)) fun w=>Bool.and_comm _ _)
   rwa[show b.sz+a.sz+1=(Rx.and a b).sz by show _=a.sz+b.sz+1;omega]at this
 | .ahead a,hp,_=>absurd hp (by simp[Rx.plain])
 | .behind a,hp,_=>absurd hp (by simp[Rx.plain])
theorem Rn {v:Nat} (hv:v≤6) {t:Rx} (hp:t.plain=true) (hs:t.sz≤6): ∃D,HasL (v:Int) (tq t.sz) D (fx t):=by
 obtain⟨e,h1,h2⟩:=ii (v:=v) t hp hs
 obtain⟨_,h3,h4,h5⟩:=vE h1 hs
 refine Ii hv h2 h3 ?_ h4 h5
 have: ∀k,k≤6→tq k≤4096:=by decide
 exact this _ hs
theorem fQ.wi {v:Nat} {B n:Nat} {M D:cV} {p:Lg} (h:fQ (v:Int) B M p) (hD:HasL (v:Int) n D p):M.next.length≤n:=by
 have h1:=hD.p9
 rw[fQ.ext h h1 fun _ _=>rfl];exact h1.len
def mC:Nat→List (List Nat)
 |0=>[[]]
 |n+1=>mC n++(mC n).map (· ++[n])
theorem vF: ∀n,(mC n).length=2^n
 |0=>rfl
 |n+1=>by
  show(mC n++(mC n).map (· ++[n])).length=_
  rw[aP,ar,vF n,Nat.pow_succ];omega
theorem A8 (p:Nat→Bool): ∀n,(List.range n).filter p∈mC n
 |0=>by simp[mC]
 |n+1=>by
  rw[List.range_succ,List.filter_append]
  show _∈mC n++(mC n).map (· ++[n])
  have ih:=A8 p n
  cases h:p n with
  |true=>rw[show[n].filter p=[n] by simp[h]];exact List.mem_append.2 (.inr (List.mem_map.2 ⟨_,ih,F⟩))
  |false=>rw[show[n].filter p=[] by simp[h],c_];exact List.mem_append.2 (.inl ih)
theorem pm: ∀ {n:Nat} {l:List Nat},l∈mC n→l.Pairwise (· < ·)∧ ∀x∈l,x<n
 |0,l,h=>by simp[mC]at h;subst h;exact⟨List.Pairwise.nil,fun x hx=>by simp at hx⟩
 |n+1,l,h=>by
  rcases List.mem_append.1 (show l∈mC n++(mC n).map (· ++[n])from h)with h|h
  ·have:=pm h;exact⟨this.1,fun x hx=>by have:=this.2 x hx;omega⟩
  ·obtain⟨m,hm,rfl⟩:=List.mem_map.1 h
   have:=pm hm
   refine⟨List.pairwise_append.2 ⟨this.1,List.pairwise_singleton _ _,fun x hx y hy=>?_⟩,fun x hx=>?_⟩
   ·rw[List.mem_singleton.1 hy];exact this.2 x hx
   ·rcases List.mem_append.1 hx with hx|hx
    ·have:=this.2 x hx;omega
    ·rw[List.mem_singleton.1 hx];omega
theorem vG {n:Nat} {l:List Nat} (h1:l.Pairwise (· < ·)) (h2: ∀x∈l,x<n):l∈mC n:=by
 have:l=(List.range n).filter (fun x=>l.contains x):=yK h1 (List.Pairwise.filter _ List.pairwise_lt_range) fun y=>by
  simp only[List.mem_filter,e_,List.contains_iff_mem]
  exact⟨fun h=>⟨h2 y h,h⟩,fun h=>h.2⟩
 rw[this];exact A8 _ _
theorem Ij {α:Type} [Nonempty α] {G:α→Prop} {kf:α→Key} {nx:α→Nat→α} {fn:α→Bool} {L:Nat} (h:Q2 G kf nx fn L) {s:α} (hs:G s) (Q:List α) (hQ: ∀q,q∈Q↔G q) {B:Nat} (hB:Q.length≤B):Ho (BP G kf nx) L (kf s) B:=by
 refine⟨Q.map kf,⟨List.mem_map.2 ⟨s,(hQ s).2 hs,F⟩,fun k hk x hx=>?_⟩,by simpa using hB⟩
 obtain⟨q,hq,rfl⟩:=List.mem_map.1 hk
 rw[sV h ((hQ q).1 hq) hx]
 exact List.mem_map.2 ⟨_,(hQ _).2 (h.ZZ q x ((hQ q).1 hq) hx),F⟩
theorem kI {a b:cV} (ha:Valid a) (hb:Valid b) {B:Nat} (h:a.next.length*2^b.next.length≤B):BS a b (ez a) B:=by
 refine Ij (Hv ha hb) (.start ha.toVal hb.toVal) ((List.range a.next.length).flatMap fun s=>(mC b.next.length).map fun l=>(s,l)) (fun q=>?_) ?_
 ·simp only[List.mem_flatMap,e_,iF]
  constructor
  ·rintro⟨s,hs,l,hl,rfl⟩;exact⟨hs,(pm hl).1,(pm hl).2⟩
  ·rintro⟨h1,h2,h3⟩;exact⟨q.1,h1,q.2,vG h2 h3,F⟩
 ·rw[List.length_flatMap]
  simp only[ar,vF]
  rw[show(fun _:Nat=>2^b.next.length)=Function.const Nat (2^b.next.length)from F,List.map_const,List.sum_replicate_nat,g_]
  exact h
theorem uj {a:cV} (ha:Valid a) {B:Nat} (h:2^(a.next.length+1)≤B):FX a (ez a) B:=by
 refine Ij (BT ha) (.start ha.toVal) ((mC a.next.length).map (fun l=>(true,l))++(mC a.next.length).map (fun l=>(false,l))) (fun q=>?_) ?_
 ·simp only[gR,iF]
  constructor
  ·rintro(⟨l,hl,rfl⟩|⟨l,hl,rfl⟩)<;>exact⟨(pm hl).1,(pm hl).2⟩
  ·rintro⟨h1,h2⟩
   obtain⟨f,l⟩:=q
   cases f with
   |true=>exact .inl ⟨l,vG h1 h2,F⟩
   |false=>exact .inr ⟨l,vG h1 h2,F⟩
 ·rw[aP,ar,ar,vF]
  rw[Nat.pow_succ]at h;omega
theorem HasL.JZ {v:Int} {n:Nat} {d:cV} {p:Lg} (h:HasL v n d p):HasL v d.next.length d p:=⟨h.valid,aS _,h.vars,h.iH⟩
theorem Ck {f:Bool→Bool→Bool} {a b:cV} (ha:Valid a) (hb:Valid b) (hv:a.vars=b.vars) {B:Nat} (hB:B≤4096) (h:a.next.length*b.next.length≤B):Wn f a b B:=by
 refine⟨bo (rC (kx ha.toVal hb.toVal hv)) (by rw[jO];omega),bo (GQ ha.toVal hb.toVal hv (by omega)) h⟩
section
variable {P:Program} {base:World} {O:List Item} {ρ:Env} {dst:Option Nat} {t:TypeId} {p:String} {af:Array Edge} {g:Option (Nat×Bool)}
theorem Gp {T E:TypeId} {z:Value} {gQ:Nat} (hu:P.underlying T=some (.array 2 E)) (hE:P.underlying E=some (.int .i64)) (hi:fT P E z 1 gQ) (n:Nat) (a b c d:Int) (w:World):
  (Op.equalIn (n+2) T (.agg #[.int .i64 a,.int .i64 b]) (.agg #[.int .i64 c,.int .i64 d])).run P w=.ok (decide (a=c∧b=d)) w:=by
 have hs: ∀w,(Go.sizeOf E).run P w=.ok 1 w:=fun w=>cd hi w
 have he: ∀(u v:Int) w,(Op.equalIn (n+1) E (.int .i64 u) (.int .i64 v)).run P w=.ok (u==v) w:=fun u v w=>run_equalIn_int w n E .i64 .i64 u v hE
 have T2: ∀w,(isAgg E).run P w=.ok false w:=fun w=>by simp[isAgg,bw hE]
 rw[Op.equalIn]
 generalize hq:Op.equalIn (n+1) E=q at he
 simp only[Sem.run_bind,bw hu,Result.andThen_ok,hs]
 by_cases h1:a=c
 ·by_cases h2:b=d
  ·subst h1 h2
   simp[List.range',part,he,T2,hs,hq]
  ·subst h1
   simp[List.range',part,he,T2,hs,h2,hq]
 ·simp[List.range',part,he,T2,hs,h1,hq]
theorem JA {x y:Operand} {T U E:TypeId} {a b c d:Int} {z:Value} {gQ:Nat} (hu:P.underlying T=some (.array 2 E)) (hE:P.underlying E=some (.int .i64)) (hi:fT P E z 1 gQ) (hm:P.eqGuardType P.depth T=false)
  (hx:ev ρ x=.agg #[.int .i64 a,.int .i64 b]) (hy:ev ρ y=.agg #[.int .i64 c,.int .i64 d]):QT P base ⟨dst,.binOp .eql T x y U,t,p,af,g⟩ ρ O (.bool (decide (a=c∧b=d))):=fun w _=>by
 have h:=Gp hu hE hi 9998 a b c d w
 simp[execOp,hx,hy,run_eqGuard_agg w .eql T x y _ _ hm,run_eql_struct,h]
theorem yp {x:Operand} {T E:TypeId} {b m gQ:Nat} {z:Value} (hu:P.underlying T=some (.array m E)) (hi:fT P E z 1 gQ) (hx:ev ρ x=.pointer (some ⟨b,0,none⟩)) (h0:1≤m):
  QT P base ⟨dst,.slice T x none none none,t,p,af,g⟩ ρ O (.slice (some ⟨b,0,none⟩) m m):=fun w hI=>by
 simp[execOp,Instr.sliceAt,Instr.sureAddr,hx,bw hu,cd hi,Instr.sliceBounds,rF]
end
theorem QJ {n:Nat} (h:n<18446744073709551616):IntKind.u64.wrap (n:Int)=(n:Int):=by simp[IntKind.wrap,IntKind.bits,IntKind.signed];omega
end Go.Lx

namespace Go.Lx
open Go.RowKit
section
variable {P:Program} {base:World} {n:Nat} {ops:Array Oper} {ds:List Deferred} {M:List Item} {Qf:Exit→Act→World→Prop} {ρ:Env} {O:List Item} {l:List Oper}
def TG (P:Program) (base:World) (n:Nat) (ops:Array Oper) (ds:List Deferred) (M:List Item) (Qf:Exit→Act→World→Prop) (l:List Oper) (ρ:Env) (O:List Item):Prop:=
 ∀a w,Ag n ds a ρ→Inv base (O++M) w→wpListIn (Fr none) 0 P ops Qf l a w
theorem TG.region {id:Nat} {l:List Oper} {a:Act} {w:World} (h:TG P base n l.toArray ds M Qf l ρ O) (ha:Ag n ds a ρ) (hI:Inv base (O++M) w):(Code.region id l.toArray false).wpIn (Fr none) 0 P Qf a w:=wpIn_region_lit (h a w ha hI)
theorem TG.nil (h: ∀a w,Ag n ds a ρ→Inv base (O++M) w→Qf .normal a w):TG P base n ops ds M Qf [] ρ O:=fun a w ha hI=>wpListIn_nil (h a w ha hI)
theorem gF {o:Oper} (hg:o.guard=none) (h:LT P none base n o ρ O (fun gX O'=>TG P base n ops ds M Qf l gX O')):TG P base n ops ds M Qf (o::l) ρ O:=
 fun a w ha hI=>wpListIn_plain hg fun next fy=>h a w M ds ha hI next _ fun a' _ _ w' h1 h2 h3=>fy a' w' (h3 a' w' h1 h2)
theorem et {d:Nat} {op:Op} {t:TypeId} {p:String} {af:Array Edge} {v:Value} (h:QT P base ⟨some d,op,t,p,af,none⟩ ρ O v) (hk:TG P base n ops ds M Qf l (pE ρ d v) O) (hn:Nat.blt d n=true:=by rfl):TG P base n ops ds M Qf (⟨some d,op,t,p,af,none⟩::l) ρ O:=
 gF F (eK F hn h hk)
theorem TG.defer {t:TypeId} {p:String} {af:Array Edge} {zM:Array TypeId} {x:Operand} {f:FuncId} {fG:Array Value} (hx:ev ρ x=.func (.func f) #[] fG)
  (hk:TG P base n ops ({target:=.fn (.func f) fG,args:= #[]}::ds) M Qf l ρ O):TG P base n ops ds M Qf (⟨none,.defer ⟨.value x,#[],zM⟩,t,p,af,none⟩::l) ρ O:=fun a w ha hI=>
 wpListIn_plain F fun next fy=>by
  refine⟨fun _ _=>trivial,?_⟩
  have hr:(Oper.semAt (Fr none).round a.eval ⟨none,.defer ⟨.value x,#[],zM⟩,t,p,af,none⟩).run P w=.ok (.defer {target:=.fn (.func f) fG,args:= #[]}) w:=by
   rw[ha.eval]
   rw[show(Fr none).round=none from F,Oper.semAt_none]
   simp[execOp,resolve,Deferred.ofValue,hx]
  rw[hr,Oper.uponIn_defer]
  refine fy _ _ (hk _ _ ⟨fun t=>?_,?_,?_⟩ hI)
  ·exact ha.tmp t
  ·exact ha.size
  ·show _::a.defers=_;rw[ha.defers]
theorem nh {o:Oper} {j tj:Nat} {want:Bool} (hg:o.guard=some (j,want)) (hj:(ops[j]?).bind (·.dst)=some tj) (hw:ρ tj=.bool want)
  (h:LT P none base n o ρ O (fun gX O'=>TG P base n ops ds M Qf l gX O')):TG P base n ops ds M Qf (o::l) ρ O:=by
 intro a w ha hi
 refine wpListIn_step fun next fy=>?_
 have hy:=jQ (ops:=ops) ha hj
 rw[hw]at hy
 have qu:Region.wanted o (yielded ops a.tmps)=true:=by unfold Region.wanted;rw[hg];simp[hy,OT]
 rw[aJ qu]
 exact h a w M ds ha hi next _ fun a' _ _ w' h1 h2 h3=>fy a' w' (h3 a' w' h1 h2)
theorem ww {d:Nat} {op:Op} {t:TypeId} {p:String} {af:Array Edge} {j tj:Nat} {want:Bool} (hj:(ops[j]?).bind (·.dst)=some tj) (hw:(OT (ρ tj)==some want)=false) (hk:TG P base n ops ds M Qf l (pE ρ d undef) O) (hn:Nat.blt d n=true:=by rfl):
  TG P base n ops ds M Qf (⟨some d,op,t,p,af,some (j,want)⟩::l) ρ O:=by
 intro a w ha hi
 refine wpListIn_step fun next fy=>?_
 have hy:=jQ (ops:=ops) ha hj
 have qu:Region.wanted ⟨some d,op,t,p,af,some (j,want)⟩ (yielded ops a.tmps)=false:=by unfold Region.wanted;simp only[hy];exact hw
 rw[qu]
 exact⟨fun _ _=>trivial,fy _ _ (hk _ _ (ha.put hn undef) hi)⟩
theorem Gn {d:Nat} {t:TypeId} {p:String} {af:Array Edge} {f:FuncId} {fn:Func} {tm:Value} {args:List Operand} {zM:Array TypeId} {vs:List Value} {R:Value→List Item→Prop} {Z:Prop} (he:Enters P f fn)
  (hc: ∀w,Inv base (O++M) w→dK P w tm f vs [] R Z) (ha:IS ρ args=vs) (hz: ∀a w,Ag n ds a ρ→Inv base (O++M) w→Z→Qf (.panic [{v:=tm,recovered:=false}]) a w) (h: ∀v N,R v N→TG P base n ops ds M Qf l (pE ρ d v) (N++O)) (hn:Nat.blt d n=true:=by rfl):
  TG P base n ops ds M Qf (⟨some d,.call ⟨.value (.func f),args.toArray,zM⟩,t,p,af,none⟩::l) ρ O:=by
 subst ha
 intro a w ha hi
 refine wpListIn_plain F fun next fy=>?_
 have tP: ¬fn.name= "runtime.NumGoroutine" :=by simpa using he.2.1
 obtain⟨bd,PI⟩:=Option.isSome_iff_exists.1 he.2.2
 have hr:(execOp a.eval ⟨some d,.call ⟨.value (.func f),args.toArray,zM⟩,t,p,af,none⟩).run P w=.ok (.enter f (IS ρ args).toArray) w:=by
  rw[ha.eval,sN]
  simp[lw,ev,Deferred.ofValue,invoke,callFunc,he.1,tP,PI]
 refine mg (by intro c e;cases e) ?_
 rw[hr,Oper.uponIn_enter]
 refine⟨fun e=>by simp[Fr,Fence.wide]at e,nD (Calls.mono (hc w hi w [] (Inv.refl w)) ?_)⟩
 rintro e w' (⟨v,O',rfl,oH,hR⟩|⟨rfl,oH,hZ⟩)
 ·refine fy _ _ (h v O' hR _ _ (ha.put hn v) ?_)
  have:=hi.call oH
  simpa[a6]using this
 ·refine hz _ _ ha ?_ hZ
  have:=hi.call oH
  simpa using this
end
end Go.Lx

namespace Go.Proofs.YtgdbfideeeegmaaGreatDoor
open Go.Lx Go.RowKit _root_.Go.Proofs.Tryz
theorem mixed:Tryz.prog.follows .mixedOrders=true:=by kernel_rfl
theorem bF:fT prog 3 (.int .i64 0) 1 8:=by unfold fT;kernel_rfl
theorem fC:fT prog 4 (.bool false) 1 1:=by unfold fT;kernel_rfl
theorem eD:fT prog 5 (.int .u8 0) 1 1:=by unfold fT;kernel_rfl
theorem FK:fT prog 9 (.string ByteArray.empty) 1 16:=by unfold fT;kernel_rfl
theorem fR:fT prog 22 ((.slice none 0 0)) 1 24:=by unfold fT;kernel_rfl
theorem dH:fT prog 23 ((.slice none 0 0)) 1 24:=by unfold fT;kernel_rfl
theorem bN:fT prog 25 ((.agg #[(.int .i64 0),(.int .i64 0),(.slice none 0 0),(.slice none 0 0)])) 4 64:=by unfold fT;kernel_rfl
theorem js:fT prog 27 (.int .i64 0) 1 8:=by unfold fT;kernel_rfl
theorem il:fT prog 32 ((.slice none 0 0)) 1 24:=by unfold fT;kernel_rfl
theorem cZ:fT prog 56 ((.slice none 0 0)) 1 24:=by unfold fT;kernel_rfl
theorem oo:fT prog 67 (.int .u8 0) 1 1:=by unfold fT;kernel_rfl
theorem dh:fT prog 69 ((.agg #[(.int .u8 0),(.slice none 0 0)])) 2 32:=by unfold fT;kernel_rfl
theorem cJ:fT prog 72 ((.agg #[(.int .u8 0),(.int .u8 0),(.int .u8 0),(.int .i64 0),(.int .i64 0)])) 5 24:=by unfold fT;kernel_rfl
theorem o5:fT prog 75 ((.slice none 0 0)) 1 24:=by unfold fT;kernel_rfl
theorem pf:fT prog 79 (.pointer none) 1 8:=by unfold fT;kernel_rfl
theorem aar:fT prog 81 ((.agg #[(.slice none 0 0),(.int .i64 0),(.int .i64 0)])) 3 40:=by unfold fT;kernel_rfl
theorem lX:fT prog 96 ((.agg #[(.int .i64 0),(.string ByteArray.empty),(.string ByteArray.empty),(.string ByteArray.empty)])) 4 56:=by unfold fT;kernel_rfl
theorem gE:fT prog 112 ((.slice none 0 0)) 1 24:=by unfold fT;kernel_rfl
theorem VC:fT prog 114 ((.agg #[(.pointer none),(.slice none 0 0),(.slice none 0 0)])) 3 56:=by unfold fT;kernel_rfl
theorem fj:fT prog 118 ((.agg #[(.int .u8 0),(.int .i64 0),(.int .i64 0),(.slice none 0 0),(.slice none 0 0),(.slice none 0 0),(.bool false)])) 7 104:=by unfold fT;kernel_rfl
theorem q7:fT prog 120 ((.slice none 0 0)) 1 24:=by unfold fT;kernel_rfl
theorem kR:fT prog 122 ((.agg #[(.slice none 0 0),(.slice none 0 0)])) 2 48:=by unfold fT;kernel_rfl
theorem ji:fT prog 129 ((.agg #[(.int .u8 0),(.int .u8 0)])) 2 2:=by unfold fT;kernel_rfl
theorem Np:fT prog 140 (.nilFunc) 1 8:=by unfold fT;kernel_rfl
theorem td:fT prog 142 ((.slice none 0 0)) 1 24:=by unfold fT;kernel_rfl
theorem VJ:fT prog 146 ((.agg #[(.int .i64 0),(.int .i64 0),(.slice none 0 0),(.slice none 0 0)])) 4 64:=by unfold fT;kernel_rfl
theorem Uq:fT prog 149 ((.agg #[(.string ByteArray.empty),(.int .i64 0),(.slice none 0 0),(.int .i64 0)])) 4 56:=by unfold fT;kernel_rfl
theorem u9:fT prog 153 ((.agg #[(.int .i64 0),(.int .i64 0)])) 2 16:=by unfold fT;kernel_rfl
theorem B5:fT prog 160 (.map none) 1 8:=by unfold fT;kernel_rfl
theorem BJ:fT prog 163 ((.agg #[])) 0 0:=by unfold fT;kernel_rfl
theorem BW:fT prog 167 ((.slice none 0 0)) 1 24:=by unfold fT;kernel_rfl
theorem jz:fT prog 169 ((.agg #[(.int .i64 0),(.int .i64 0),(.slice none 0 0)])) 3 40:=by unfold fT;kernel_rfl
theorem gO:fT prog 173 ((.agg #[(.int .i64 0),(.int .i64 0)])) 2 16:=by unfold fT;kernel_rfl
theorem Nq:fT prog 180 (.nilFunc) 1 8:=by unfold fT;kernel_rfl
theorem vp:fT prog 186 (.nilFunc) 1 8:=by unfold fT;kernel_rfl
theorem l_:fT prog 208 ((.agg #[(.int .i64 0),(.slice none 0 0)])) 2 32:=by unfold fT;kernel_rfl
theorem Mt:fT prog 209 (.nilFunc) 1 8:=by unfold fT;kernel_rfl
theorem B6:fT prog 227 (.pointer none) 1 8:=by unfold fT;kernel_rfl
theorem iL:fT prog 234 ((.agg #[(.int .i64 0),(.int .i64 0)])) 2 16:=by unfold fT;kernel_rfl
theorem rl:fT prog 235 ((.slice none 0 0)) 1 24:=by unfold fT;kernel_rfl
theorem B7:fT prog 236 (.map none) 1 8:=by unfold fT;kernel_rfl
theorem Gm:fT prog 238 ((.agg #[(.int .i64 0),(.int .i64 0),(.slice none 0 0),(.slice none 0 0),(.int .i64 0),(.int .i64 0),(.slice none 0 0),(.slice none 0 0),(.slice none 0 0),(.map none)])) 10 160:=by unfold fT;kernel_rfl
theorem VK:fT prog 260 ((.agg #[(.int .u8 0),(.int .u8 0),(.int .u8 0),(.int .u8 0),(.int .u8 0),(.int .u8 0),(.int .u8 0),(.int .u8 0),(.int .u8 0),(.int .u8 0),(.int .u8 0),(.int .u8 0),(.int .u8 0),(.int .u8 0),(.int .u8 0),(.int .u8 0),(.int .u8 0),(.int .u8 0),(.int .u8 0),(.int .u8 0),(.int .u8 0),(.int .u8 0),(.int .u8 0),(.int .u8 0)])) 24 24:=by unfold fT;kernel_rfl
theorem jG:qA prog 25 [(0,1),(1,1),(2,1),(3,1)]:=⟨_,underlying25,fun w=>by simp[cd bF,cd fR,cd dH]⟩
theorem qJ:qA prog 69 [(0,1),(1,1)]:=⟨_,underlying69,fun w=>by simp[cd il,cd oo]⟩
theorem nI:qA prog 72 [(0,1),(1,1),(2,1),(3,1),(4,1)]:=⟨_,underlying72,fun w=>by simp[cd bF,cd eD]⟩
theorem VL:qA prog 81 [(0,1),(1,1),(2,1)]:=⟨_,underlying81,fun w=>by simp[cd bF,cd il]⟩
theorem s_:qA prog 96 [(0,1),(1,1),(2,1),(3,1)]:=⟨_,underlying96,fun w=>by simp[cd bF,cd FK]⟩
theorem QW:qA prog 114 [(0,1),(1,1),(2,1)]:=⟨_,underlying114,fun w=>by simp[cd cZ,cd pf,cd gE]⟩
theorem B2:qA prog 118 [(0,1),(1,4),(5,1),(6,1)]:=⟨_,underlying118,fun w=>by simp[cd fC,cd eD,cd bN,cd cZ]⟩
theorem HC:qA prog 122 [(0,1),(1,1)]:=⟨_,underlying122,fun w=>by simp[cd cZ,cd q7]⟩
theorem rN:qA prog 129 [(0,1),(1,1)]:=⟨_,underlying129,fun w=>by simp[cd eD]⟩
theorem Q0:qA prog 146 [(0,4)]:=⟨_,underlying146,fun w=>by simp[cd bN]⟩
theorem P7:qA prog 149 [(0,1),(1,1),(2,1),(3,1)]:=⟨_,underlying149,fun w=>by simp[cd bF,cd FK,cd js,cd il]⟩
theorem xg:qA prog 163 []:=⟨_,underlying163,fun w=>by simp[]⟩
theorem BY:qA prog 169 [(0,1),(1,1),(2,1)]:=⟨_,underlying169,fun w=>by simp[cd bF,cd BW]⟩
theorem Hu:qA prog 208 [(0,1),(1,1)]:=⟨_,underlying208,fun w=>by simp[cd bF,cd cZ]⟩
theorem HE:qA prog 234 [(0,1),(1,1)]:=⟨_,underlying234,fun w=>by simp[cd bF]⟩
theorem B8:qA prog 238 [(0,4),(4,4),(8,1),(9,1)]:=⟨_,underlying238,fun w=>by simp[cd bN,cd rl,cd B7]⟩
theorem Nr:Lx.Enters prog 11 f11:=⟨func11,by kernel_rfl,F⟩
theorem YZ:Lx.Enters prog 14 f14:=⟨func14,by kernel_rfl,F⟩
theorem Y1:Lx.Enters prog 15 f15:=⟨func15,by kernel_rfl,F⟩
theorem Y0:Lx.Enters prog 16 f16:=⟨func16,by kernel_rfl,F⟩
theorem aas:Lx.Enters prog 18 f18:=⟨func18,by kernel_rfl,F⟩
theorem L4:Lx.Enters prog 19 f19:=⟨func19,by kernel_rfl,F⟩
theorem YI:Lx.Enters prog 22 f22:=⟨func22,by kernel_rfl,F⟩
theorem Df:Lx.Enters prog 23 f23:=⟨func23,by kernel_rfl,F⟩
theorem aat:Lx.Enters prog 27 f27:=⟨func27,by kernel_rfl,F⟩
theorem HF:Lx.Enters prog 28 f28:=⟨func28,by kernel_rfl,F⟩
theorem L5:Lx.Enters prog 29 f29:=⟨func29,by kernel_rfl,F⟩
theorem Yx:Lx.Enters prog 31 f31:=⟨func31,by kernel_rfl,F⟩
theorem L3:Lx.Enters prog 32 f32:=⟨func32,by kernel_rfl,F⟩
theorem C_:Lx.Enters prog 39 f39:=⟨func39,by kernel_rfl,F⟩
theorem LF:Lx.Enters prog 40 f40:=⟨func40,by kernel_rfl,F⟩
theorem Sh:Lx.Enters prog 41 f41:=⟨func41,by kernel_rfl,F⟩
theorem Yl:Lx.Enters prog 42 f42:=⟨func42,by kernel_rfl,F⟩
theorem S0:Lx.Enters prog 43 f43:=⟨func43,by kernel_rfl,F⟩
theorem S1:Lx.Enters prog 44 f44:=⟨func44,by kernel_rfl,F⟩
theorem Ns:Lx.Enters prog 45 f45:=⟨func45,by kernel_rfl,F⟩
theorem aau:Lx.Enters prog 46 f46:=⟨func46,by kernel_rfl,F⟩
theorem YE:Lx.Enters prog 47 f47:=⟨func47,by kernel_rfl,F⟩
theorem Hd:Lx.Enters prog 48 f48:=⟨func48,by kernel_rfl,F⟩
theorem Hf:Lx.Enters prog 49 f49:=⟨func49,by kernel_rfl,F⟩
theorem S3:Lx.Enters prog 50 f50:=⟨func50,by kernel_rfl,F⟩
theorem S4:Lx.Enters prog 51 f51:=⟨func51,by kernel_rfl,F⟩
theorem aav:Lx.Enters prog 52 f52:=⟨func52,by kernel_rfl,F⟩
theorem aaq:Lx.Enters prog 54 f54:=⟨func54,by kernel_rfl,F⟩
theorem HD:Lx.Enters prog 56 f56:=⟨func56,by kernel_rfl,F⟩
theorem S5:Lx.Enters prog 57 f57:=⟨func57,by kernel_rfl,F⟩
theorem aaw:Lx.Enters prog 58 f58:=⟨func58,by kernel_rfl,F⟩
theorem YJ:Lx.Enters prog 59 f59:=⟨func59,by kernel_rfl,F⟩
theorem X_:Lx.Enters prog 67 f67:=⟨func67,by kernel_rfl,F⟩
theorem Lt:Lx.Enters prog 68 f68:=⟨func68,by kernel_rfl,F⟩
theorem aax:Lx.Enters prog 69 f69:=⟨func69,by kernel_rfl,F⟩
theorem SZ:Lx.Enters prog 70 f70:=⟨func70,by kernel_rfl,F⟩
theorem SY:Lx.Enters prog 71 f71:=⟨func71,by kernel_rfl,F⟩
theorem qa:Lx.Enters prog 72 f72:=⟨func72,by kernel_rfl,F⟩
theorem D7:Lx.Enters prog 73 f73:=⟨func73,by kernel_rfl,F⟩
theorem aaj:Lx.Enters prog 74 f74:=⟨func74,by kernel_rfl,F⟩
theorem aah:Lx.Enters prog 75 f75:=⟨func75,by kernel_rfl,F⟩
theorem Z8:Lx.Enters prog 76 f76:=⟨func76,by kernel_rfl,F⟩
theorem aab:Lx.Enters prog 77 f77:=⟨func77,by kernel_rfl,F⟩
theorem Z_:Lx.Enters prog 78 f78:=⟨func78,by kernel_rfl,F⟩
theorem Yy:Lx.Enters prog 79 f79:=⟨func79,by kernel_rfl,F⟩
theorem YA:Lx.Enters prog 80 f80:=⟨func80,by kernel_rfl,F⟩
theorem S6:Lx.Enters prog 81 f81:=⟨func81,by kernel_rfl,F⟩
theorem S7:Lx.Enters prog 82 f82:=⟨func82,by kernel_rfl,F⟩
theorem wv:Lx.Enters prog 83 f83:=⟨func83,by kernel_rfl,F⟩
theorem aay:Lx.Enters prog 84 f84:=⟨func84,by kernel_rfl,F⟩
theorem Nt:Lx.Enters prog 85 f85:=⟨func85,by kernel_rfl,F⟩
theorem aaz:Lx.Enters prog 86 f86:=⟨func86,by kernel_rfl,F⟩
theorem aao:Lx.Enters prog 89 f89:=⟨func89,by kernel_rfl,F⟩
theorem No:Lx.Enters prog 90 f90:=⟨func90,by kernel_rfl,F⟩
theorem HG:Lx.Enters prog 91 f91:=⟨func91,by kernel_rfl,F⟩
theorem S8:Lx.Enters prog 92 f92:=⟨func92,by kernel_rfl,F⟩
theorem aaA:Lx.Enters prog 93 f93:=⟨func93,by kernel_rfl,F⟩
theorem S9:Lx.Enters prog 94 f94:=⟨func94,by kernel_rfl,F⟩
theorem aaB:Lx.Enters prog 95 f95:=⟨func95,by kernel_rfl,F⟩
theorem Do:Lx.Enters prog 96 f96:=⟨func96,by kernel_rfl,F⟩
theorem U_:Lx.Enters prog 100 f100:=⟨func100,by kernel_rfl,F⟩
theorem sT:Lx.Enters prog 101 f101:=⟨func101,by kernel_rfl,F⟩
theorem ML:Lx.Enters prog 102 f102:=⟨func102,by kernel_rfl,F⟩
theorem F6:Lx.Enters prog 103 f103:=⟨func103,by kernel_rfl,F⟩
theorem MG:Lx.Enters prog 104 f104:=⟨func104,by kernel_rfl,F⟩
theorem U3:Lx.Enters prog 105 f105:=⟨func105,by kernel_rfl,F⟩
theorem U7:Lx.Enters prog 106 f106:=⟨func106,by kernel_rfl,F⟩
theorem U8:Lx.Enters prog 107 f107:=⟨func107,by kernel_rfl,F⟩
theorem F2:Lx.Enters prog 108 f108:=⟨func108,by kernel_rfl,F⟩
theorem M5:Lx.Enters prog 109 f109:=⟨func109,by kernel_rfl,F⟩
theorem F8:Lx.Enters prog 110 f110:=⟨func110,by kernel_rfl,F⟩
theorem Vx:Lx.Enters prog 111 f111:=⟨func111,by kernel_rfl,F⟩
theorem vi:Lx.Enters prog 112 f112:=⟨func112,by kernel_rfl,F⟩
theorem M6:Lx.Enters prog 113 f113:=⟨func113,by kernel_rfl,F⟩
theorem Ga:Lx.Enters prog 114 f114:=⟨func114,by kernel_rfl,F⟩
theorem BZ:Lx.Enters prog 115 f115:=⟨func115,by kernel_rfl,F⟩
theorem MZ:Lx.Enters prog 116 f116:=⟨func116,by kernel_rfl,F⟩
theorem Vv:Lx.Enters prog 117 f117:=⟨func117,by kernel_rfl,F⟩
theorem VM:Lx.Enters prog 118 f118:=⟨func118,by kernel_rfl,F⟩
theorem VN:Lx.Enters prog 119 f119:=⟨func119,by kernel_rfl,F⟩
theorem Nu:Lx.Enters prog 120 f120:=⟨func120,by kernel_rfl,F⟩
theorem TE:Lx.Enters prog 121 f121:=⟨func121,by kernel_rfl,F⟩
theorem TF:Lx.Enters prog 122 f122:=⟨func122,by kernel_rfl,F⟩
theorem VO:Lx.Enters prog 124 f124:=⟨func124,by kernel_rfl,F⟩
theorem VF:Lx.Enters prog 127 f127:=⟨func127,by kernel_rfl,F⟩
theorem VP:Lx.Enters prog 128 f128:=⟨func128,by kernel_rfl,F⟩
theorem VQ:Lx.Enters prog 129 f129:=⟨func129,by kernel_rfl,F⟩
theorem VR:Lx.Enters prog 130 f130:=⟨func130,by kernel_rfl,F⟩
theorem VS:Lx.Enters prog 131 f131:=⟨func131,by kernel_rfl,F⟩
theorem lz:Lx.Enters prog 132 f132:=⟨func132,by kernel_rfl,F⟩
theorem BD:Lx.Enters prog 133 f133:=⟨func133,by kernel_rfl,F⟩
theorem Uh:Lx.Enters prog 134 f134:=⟨func134,by kernel_rfl,F⟩
theorem Ui:Lx.Enters prog 135 f135:=⟨func135,by kernel_rfl,F⟩
theorem F5:Lx.Enters prog 138 f138:=⟨func138,by kernel_rfl,F⟩
theorem VT:Lx.Enters prog 139 f139:=⟨func139,by kernel_rfl,F⟩
theorem MF:Lx.Enters prog 140 f140:=⟨func140,by kernel_rfl,F⟩
theorem U2:Lx.Enters prog 141 f141:=⟨func141,by kernel_rfl,F⟩
theorem UX:Lx.Enters prog 142 f142:=⟨func142,by kernel_rfl,F⟩
theorem UZ:Lx.Enters prog 143 f143:=⟨func143,by kernel_rfl,F⟩
theorem Mq:Lx.Enters prog 144 f144:=⟨func144,by kernel_rfl,F⟩
theorem UV:Lx.Enters prog 145 f145:=⟨func145,by kernel_rfl,F⟩
theorem Me:Lx.Enters prog 146 f146:=⟨func146,by kernel_rfl,F⟩
theorem FW:Lx.Enters prog 147 f147:=⟨func147,by kernel_rfl,F⟩
theorem BO:Lx.Enters prog 148 f148:=⟨func148,by kernel_rfl,F⟩
theorem Mo:Lx.Enters prog 149 f149:=⟨func149,by kernel_rfl,F⟩
theorem U1:Lx.Enters prog 150 f150:=⟨func150,by kernel_rfl,F⟩
theorem VU:Lx.Enters prog 151 f151:=⟨func151,by kernel_rfl,F⟩
theorem VV:Lx.Enters prog 152 f152:=⟨func152,by kernel_rfl,F⟩
theorem Mr:Lx.Enters prog 153 f153:=⟨func153,by kernel_rfl,F⟩
theorem US:Lx.Enters prog 154 f154:=⟨func154,by kernel_rfl,F⟩
theorem UM:Lx.Enters prog 155 f155:=⟨func155,by kernel_rfl,F⟩
theorem UN:Lx.Enters prog 156 f156:=⟨func156,by kernel_rfl,F⟩
theorem UP:Lx.Enters prog 157 f157:=⟨func157,by kernel_rfl,F⟩
theorem Vh:Lx.Enters prog 159 f159:=⟨func159,by kernel_rfl,F⟩
theorem BI:Lx.Enters prog 160 f160:=⟨func160,by kernel_rfl,F⟩
theorem Vl:Lx.Enters prog 161 f161:=⟨func161,by kernel_rfl,F⟩
theorem M3:Lx.Enters prog 162 f162:=⟨func162,by kernel_rfl,F⟩
theorem Vm:Lx.Enters prog 163 f163:=⟨func163,by kernel_rfl,F⟩
theorem Ve:Lx.Enters prog 164 f164:=⟨func164,by kernel_rfl,F⟩
theorem Vd:Lx.Enters prog 165 f165:=⟨func165,by kernel_rfl,F⟩
theorem Va:Lx.Enters prog 166 f166:=⟨func166,by kernel_rfl,F⟩
theorem U9:Lx.Enters prog 167 f167:=⟨func167,by kernel_rfl,F⟩
theorem VW:Lx.Enters prog 168 f168:=⟨func168,by kernel_rfl,F⟩
theorem VE:Lx.Enters prog 171 f171:=⟨func171,by kernel_rfl,F⟩
theorem Nv:Lx.Enters prog 172 f172:=⟨func172,by kernel_rfl,F⟩
theorem VX:Lx.Enters prog 173 f173:=⟨func173,by kernel_rfl,F⟩
theorem VY:Lx.Enters prog 174 f174:=⟨func174,by kernel_rfl,F⟩
theorem VZ:Lx.Enters prog 175 f175:=⟨func175,by kernel_rfl,F⟩
theorem B9:Lx.Enters prog 176 f176:=⟨func176,by kernel_rfl,F⟩
theorem V0:Lx.Enters prog 177 f177:=⟨func177,by kernel_rfl,F⟩
theorem V1:Lx.Enters prog 178 f178:=⟨func178,by kernel_rfl,F⟩
theorem V2:Lx.Enters prog 179 f179:=⟨func179,by kernel_rfl,F⟩
theorem V3:Lx.Enters prog 180 f180:=⟨func180,by kernel_rfl,F⟩
theorem V4:Lx.Enters prog 181 f181:=⟨func181,by kernel_rfl,F⟩
theorem V5:Lx.Enters prog 182 f182:=⟨func182,by kernel_rfl,F⟩
theorem V6:Lx.Enters prog 183 f183:=⟨func183,by kernel_rfl,F⟩
theorem V7:Lx.Enters prog 184 f184:=⟨func184,by kernel_rfl,F⟩
theorem V8:Lx.Enters prog 185 f185:=⟨func185,by kernel_rfl,F⟩
theorem V9:Lx.Enters prog 186 f186:=⟨func186,by kernel_rfl,F⟩
theorem V_:Lx.Enters prog 187 f187:=⟨func187,by kernel_rfl,F⟩
theorem Wa:Lx.Enters prog 188 f188:=⟨func188,by kernel_rfl,F⟩
theorem BC:Lx.Enters prog 189 f189:=⟨func189,by kernel_rfl,F⟩
theorem Nw:Lx.Enters prog 190 f190:=⟨func190,by kernel_rfl,F⟩
theorem Wb:Lx.Enters prog 191 f191:=⟨func191,by kernel_rfl,F⟩
theorem UB:Lx.Enters prog 192 f192:=⟨func192,by kernel_rfl,F⟩
theorem UC:Lx.Enters prog 193 f193:=⟨func193,by kernel_rfl,F⟩
theorem FO:Lx.Enters prog 194 f194:=⟨func194,by kernel_rfl,F⟩
theorem UA:Lx.Enters prog 195 f195:=⟨func195,by kernel_rfl,F⟩
theorem Uz:Lx.Enters prog 196 f196:=⟨func196,by kernel_rfl,F⟩
theorem UD:Lx.Enters prog 197 f197:=⟨func197,by kernel_rfl,F⟩
theorem UE:Lx.Enters prog 198 f198:=⟨func198,by kernel_rfl,F⟩
theorem L8:Lx.Enters prog 210 f210:=⟨func210,by kernel_rfl,F⟩
theorem Vk:Lx.Enters prog 211 f211:=⟨func211,by kernel_rfl,F⟩
theorem Vi:Lx.Enters prog 212 f212:=⟨func212,by kernel_rfl,F⟩
theorem Vc:Lx.Enters prog 213 f213:=⟨func213,by kernel_rfl,F⟩
theorem Wc:Lx.Enters prog 214 f214:=⟨func214,by kernel_rfl,F⟩
theorem We:Lx.Enters prog 215 f215:=⟨func215,by kernel_rfl,F⟩
theorem Wf:Lx.Enters prog 216 f216:=⟨func216,by kernel_rfl,F⟩
theorem Wg:Lx.Enters prog 218 f218:=⟨func218,by kernel_rfl,F⟩
theorem Wh:Lx.Enters prog 219 f219:=⟨func219,by kernel_rfl,F⟩
theorem L7:Lx.Enters prog 231 f231:=⟨func231,by kernel_rfl,F⟩
theorem Vf:Lx.Enters prog 232 f232:=⟨func232,by kernel_rfl,F⟩
theorem M0:Lx.Enters prog 240 f240:=⟨func240,by kernel_rfl,F⟩
theorem JK (w:World) (b1 b2:Option Addr) (c1 c2:Nat) (xs ys:List Int) (h1:Sl w b1 (ints xs)) (h2:Sl w b2 (ints ys)) (hb:xs.length<9223372036854775807):
  cn prog 69 [(.slice b1 xs.length c1),(.slice b2 ys.length c2)] w fun v N=>v=.bool (decide (xs=ys))∧N=[]:=by
 refine aE func69 F ntmps69 F ?_
 refine aj (ak F (ah (aR (aj (ai F (ae (cQ underlying56) (ai F (ae (cQ underlying56) (ae dW (ah (aZ F (fun hc=>?_) (fun hc=>?_))))))))))))
 ·have lC:xs.length≠ys.length:=by omega
  have ig:xs.length≠ys.length:=by omega
  refine aj (ak F (ah (aM ?_)))
  refine aT (.bool false) results69 F ?_
  exact⟨au Value.bool (am (fun e=>ig (by rw[e]))).symm,F⟩
 have uo: ¬xs.length≠ys.length:=by omega
 have ig:xs.length=ys.length:=by omega
 refine aL (aR (aj (ak F (ah (aV ?_)))))
 refine ek (fun(k:Nat) ρ O=>O=[]∧k≤xs.length∧xs.take k=ys.take k∧df [(0,(.slice b1 xs.length c1)),(1,(.slice b2 ys.length c2)),(5,vI (k:Int))] ρ) (fun k=>xs.length-k) 0 ?_ ?_
 ·exact⟨F,bl _,F,⟨F,F,F,trivial⟩⟩
 rintro k ρ O ⟨rfl,hk,he,hH⟩
 obtain⟨gA,rfl⟩:=hH.elim
 clear hH
 refine aR (aj (ai F (ai F (ae (cQ underlying56) (ae cU (ah (aZ F (fun hc=>?_) (fun hc=>?_))))))))
 ·have o_:k<xs.length:=by omega
  have gw:k<xs.length:=by omega
  have l9:k<ys.length:=by omega
  obtain⟨kb1,ko1,rfl⟩:=h1.addr (i:=k) (by simpa using gw)
  obtain⟨kb2,ko2,rfl⟩:=h2.addr (i:=k) (by simpa using l9)
  refine aL (aR (aV (aR ?_)))
  refine fS [(0,0),(1,0),(2,0),(3,0),(4,0),(5,0),(6,0),(7,0),(8,0)] ?_
  refine aw F aI (aw F aI (aw F (As underlying56 bF F F gw) (aw F (nm underlying3 F F h1 (gL gw)) (aw F aI (aw F aI (aw F (As underlying56 bF F F l9) (aw F (nm underlying3 F F h2 (gL l9)) (aw F dW ?_))))))))
  refine cA ?_
  refine aZ (p:= ¬xs[k]=ys[k]) F (fun hc=>?_) (fun hc=>?_)
  ·refine aR ?_
   refine bg (ak F (ah (aM ?_)))
   refine aT (.bool false) results69 F ?_
   exact⟨au Value.bool (am (fun e=>hc (by subst e;rfl))).symm,F⟩
  refine aL (bg (ai F (ae (lR F F (by omega)) (ak F (ah ?_)))))
  refine⟨k+1,by omega,F,by omega,?_,⟨F,F,F,trivial⟩⟩
  rw[aH gw,aH l9,he]
  exact au _ (au (fun z=>[z]) (Classical.not_not.1 hc))
 have wq: ¬k<xs.length:=by omega
 refine cG ?_
 refine aj (ak F (ah (aM ?_)))
 refine aT (.bool true) results69 F ?_
 exact⟨au Value.bool (ax (show xs=ys by rw[br (by omega),br (by omega)]at he;exact he)).symm,F⟩
theorem yD (w:World) (b1 b2:Option Addr) (c1 c2:Nat) (xs ys:List Bool) (h1:Sl w b1 (cI xs)) (h2:Sl w b2 (cI ys)) (hb:xs.length<9223372036854775807):
  cn prog 44 [(.slice b1 xs.length c1),(.slice b2 ys.length c2)] w fun v N=>v=.bool (decide (xs=ys))∧N=[]:=by
 refine aE func44 F ntmps44 F ?_
 refine aj (ak F (ah (aR (aj (ai F (ae (cQ underlying23) (ai F (ae (cQ underlying23) (ae dW (ah (aZ F (fun hc=>?_) (fun hc=>?_))))))))))))
 ·have lC:xs.length≠ys.length:=by omega
  have ig:xs.length≠ys.length:=by omega
  refine aj (ak F (ah (aM ?_)))
  refine aT (.bool false) results44 F ?_
  exact⟨au Value.bool (am (fun e=>ig (by rw[e]))).symm,F⟩
 have uo: ¬xs.length≠ys.length:=by omega
 have ig:xs.length=ys.length:=by omega
 refine aL (aR (aj (ak F (ah (aV ?_)))))
 refine ek (fun(k:Nat) ρ O=>O=[]∧k≤xs.length∧xs.take k=ys.take k∧df [(0,(.slice b1 xs.length c1)),(1,(.slice b2 ys.length c2)),(5,vI (k:Int))] ρ) (fun k=>xs.length-k) 0 ?_ ?_
 ·exact⟨F,bl _,F,⟨F,F,F,trivial⟩⟩
 rintro k ρ O ⟨rfl,hk,he,hH⟩
 obtain⟨gA,rfl⟩:=hH.elim
 clear hH
 refine aR (aj (ai F (ai F (ae (cQ underlying23) (ae cU (ah (aZ F (fun hc=>?_) (fun hc=>?_))))))))
 ·have o_:k<xs.length:=by omega
  have gw:k<xs.length:=by omega
  have l9:k<ys.length:=by omega
  obtain⟨kb1,ko1,rfl⟩:=h1.addr (i:=k) (by simpa using gw)
  obtain⟨kb2,ko2,rfl⟩:=h2.addr (i:=k) (by simpa using l9)
  refine aL (aR (aV (aR ?_)))
  refine fS [(0,0),(1,0),(2,0),(3,0),(4,0),(5,0),(6,0),(7,0),(8,0)] ?_
  refine aw F aI (aw F aI (aw F (As underlying23 fC F F gw) (aw F (nm underlying4 F F h1 (jE gw)) (aw F aI (aw F aI (aw F (As underlying23 fC F F l9) (aw F (nm underlying4 F F h2 (jE l9)) (aw F (K8 underlying4 F F) ?_))))))))
  refine cA ?_
  refine aZ (p:= ¬xs[k]=ys[k]) (au Value.bool (by cases xs[k]<;>cases ys[k]<;>rfl)) (fun hc=>?_) (fun hc=>?_)
  ·refine aR ?_
   refine bg (ak F (ah (aM ?_)))
   refine aT (.bool false) results44 F ?_
   exact⟨au Value.bool (am (fun e=>hc (by subst e;rfl))).symm,F⟩
  refine aL (bg (ai F (ae (lR F F (by omega)) (ak F (ah ?_)))))
  refine⟨k+1,by omega,F,by omega,?_,⟨F,F,F,trivial⟩⟩
  rw[aH gw,aH l9,he]
  exact au _ (au (fun z=>[z]) (Classical.not_not.1 hc))
 have wq: ¬k<xs.length:=by omega
 refine cG ?_
 refine aj (ak F (ah (aM ?_)))
 refine aT (.bool true) results44 F ?_
 exact⟨au Value.bool (ax (show xs=ys by rw[br (by omega),br (by omega)]at he;exact he)).symm,F⟩
theorem AT (w:World) (b1 b2:Option Addr) (c1 c2:Nat) (vs us:List Value) (rs ss:List (List Int)) (h1:Sl w b1 vs) (hr1:qB w vs rs) (h2:Sl w b2 us) (M7:qB w us ss) (hb:rs.length<9223372036854775807) (w7: ∀r∈rs,r.length<9223372036854775807):
  cn prog 43 [.slice b1 rs.length c1,.slice b2 ss.length c2] w fun v N=>v=.bool (decide (rs=ss))∧N=[]:=by
 refine aE func43 F ntmps43 F ?_
 refine aj (ak F (ah (aR (aj (ai F (ae (cQ underlying22) (ai F (ae (cQ underlying22) (ae dW (ah (aZ F (fun hc=>?_) (fun hc=>?_))))))))))))
 ·have lC:rs.length≠ss.length:=by omega
  have ig:rs.length≠ss.length:=by omega
  refine aj (ak F (ah (aM ?_)))
  refine aT (.bool false) results43 F ?_
  exact⟨au Value.bool (am (fun e=>ig (by rw[e]))).symm,F⟩
 have uo: ¬rs.length≠ss.length:=by omega
 have ig:rs.length=ss.length:=by omega
 refine aL (aR (aj (ak F (ah (aV ?_)))))
 refine ek (fun(k:Nat) ρ O=>O=[]∧k≤rs.length∧rs.take k=ss.take k∧df [(0,(.slice b1 rs.length c1)),(1,(.slice b2 ss.length c2)),(5,vI (k:Int))] ρ) (fun k=>rs.length-k) 0 ?_ ?_
 ·exact⟨F,bl _,F,⟨F,F,F,trivial⟩⟩
 rintro k ρ O ⟨rfl,hk,he,hH⟩
 obtain⟨gA,rfl⟩:=hH.elim
 clear hH
 refine aR (aj (ai F (ai F (ae (cQ underlying22) (ae cU (ah (aZ F (fun hc=>?_) (fun hc=>?_))))))))
 ·have o_:k<rs.length:=by omega
  have gw:k<rs.length:=by omega
  have l9:k<ss.length:=by omega
  obtain⟨vb1,vc1,g1,s1⟩:=hr1.get gw
  obtain⟨vb2,vc2,g2,s2⟩:=M7.get l9
  obtain⟨kb1,ko1,rfl⟩:=h1.addr (i:=k) (by rw[hr1.1];exact gw)
  obtain⟨kb2,ko2,rfl⟩:=h2.addr (i:=k) (by rw[M7.1];exact l9)
  refine aL (aR (aV (aR ?_)))
  refine fS [(0,0),(1,0),(2,0),(3,0),(4,0),(5,0),(6,0),(7,0),(8,2),(9,2)] ?_
  refine aw F aI (aw F aI (aw F (As underlying22 cZ F F gw) (aw F (nm underlying56 F F h1 g1) (aw F aI (aw F aI (aw F (As underlying22 cZ F F l9) (aw F (nm underlying56 F F h2 g2) ?_)))))))
  have qV:=fun(w1:World) (hI:Inv w [] w1)=>JK w1 vb1 vb2 vc1 vc2 rs[k] ss[k] (hI.sl s1) (hI.sl s2) (w7 _ (aN gw))
  refine cy F F (bm aax (aX qV) ?_)
  clear qV
  rintro v O' ⟨N,rfl,rfl,rfl⟩
  refine cy F F (eK F F iV ?_)
  refine cA ?_
  refine aZ (p:= ¬rs[k]=ss[k]) (au Value.bool (by simp)) (fun hc=>?_) (fun hc=>?_)
  ·refine aR ?_
   refine bg (ak F (ah (aM ?_)))
   refine aT (.bool false) results43 F ?_
   exact⟨au Value.bool (am (fun e=>hc (by subst e;rfl))).symm,F⟩
  refine aL (bg (ai F (ae (lR F F (by omega)) (ak F (ah ?_)))))
  refine⟨k+1,by omega,F,by omega,?_,⟨F,F,F,trivial⟩⟩
  rw[aH gw,aH l9,he]
  exact au _ (au (fun z=>[z]) (Classical.not_not.1 hc))
 have wq: ¬k<rs.length:=by omega
 refine cG ?_
 refine aj (ak F (ah (aM ?_)))
 refine aT (.bool true) results43 F ?_
 exact⟨au Value.bool (ax (show rs=ss by rw[br (by omega),br (by omega)]at he;exact he)).symm,F⟩
theorem L2 (w:World) (d e:cV) (Ta Tb Tc tf:Option Addr) (Wj Wk Wl tF:Nat) (vs us:List Value) (h1:jB w d Ta vs Tc) (h2:jB w e Tb us tf) (hb:d.next.length<9223372036854775807) (w7: ∀r∈d.next,r.length<9223372036854775807) (zH:d.a7.length<9223372036854775807):
  cn prog 16 [.agg (fE d Ta Wj Tc Wl).toArray,.agg (fE e Tb Wk tf tF).toArray] w fun v N=>v=.bool (decide (d=e))∧True:=by
 refine aE func16 F ntmps16 F ?_
 refine aj (aq (dE (cs:=[(vI d.vars),(vI d.start),(.slice Ta d.next.length Wj),(.slice Tc d.a7.length Wl)]) (fun b1=>?_)))
 refine aq (dE (cs:=[(vI e.vars),(vI e.start),(.slice Tb e.next.length Wk),(.slice tf e.a7.length tF)]) (fun b2=>?_))
 refine ak F (ah (aj (ae (bt underlying25 bF) (ae (bq 1 underlying3) (ae (bt underlying25 bF) (ae (bq 0 underlying3) ?_))))))
 by_cases e1:d.vars=e.vars
 ·refine ae (aC bK (ax e1)) ?_
  refine ai F (aF (bt underlying25 bF) (aF (bq 1 underlying3) (aF (bt underlying25 bF) (aF (bq 0 underlying3) ?_))))
  by_cases e2:d.start=e.start
  ·refine aF (aC bK (ax e2)) ?_
   refine ae cm (ai F (aF (bt underlying25 fR) (aF (bq 1 underlying22) (aF (bt underlying25 fR) (aF (bq 0 underlying22) ?_)))))
   by_cases e3:d.next=e.next
   ·let eh:List Lx.Item:=[oI b2 25 [(vI e.vars),(vI e.start),(.slice Tb e.next.length Wk),(.slice tf e.a7.length tF)],oI b1 25 [(vI d.vars),(vI d.start),(.slice Ta d.next.length Wj),(.slice Tc d.a7.length Wl)]]
    have NC:=fun(w1:World) (hI:Inv w eh w1)=>AT w1 Ta Tb Wj Wk vs us d.next e.next (hI.sl h1.outer) (hI.rows h1.rows) (hI.sl h2.outer) (hI.rows h2.rows) hb w7
    refine gk F F F (bm S0 (aX NC) ?_)
    clear NC
    rintro v O' ⟨N,rfl,rfl,rfl⟩
    rw[ax e3]
    refine ae cm (ai F (aF (bt underlying25 dH) (aF (bq 1 underlying23) (aF (bt underlying25 dH) (aF (bq 0 underlying23) ?_)))))
    by_cases e4:d.a7=e.a7
    ·have uf:=fun(w1:World) (hI:Inv w eh w1)=>yD w1 Tc tf Wl tF d.a7 e.a7 (hI.sl h1.a7) (hI.sl h2.a7) zH
     refine gk F F F (bm S1 (aX uf) ?_)
     clear uf
     rintro v O' ⟨N,rfl,rfl,rfl⟩
     rw[ax e4]
     refine ae cm (ak F (ah (aM ?_)))
     refine aT (.bool true) results16 F ?_
     refine⟨au Value.bool (ax ?_).symm,trivial⟩
     cases d;cases e;simp only at e1 e2 e3 e4;rw[e1,e2,e3,e4]
    have uf:=fun(w1:World) (hI:Inv w [oI b2 25 [(vI e.vars),(vI e.start),(.slice Tb e.next.length Wk),(.slice tf e.a7.length tF)],oI b1 25 [(vI d.vars),(vI d.start),(.slice Ta d.next.length Wj),(.slice Tc d.a7.length Wl)]] w1)=>yD w1 Tc tf Wl tF d.a7 e.a7 (hI.sl h1.a7) (hI.sl h2.a7) zH
    refine gk F F F (bm S1 (aX uf) ?_)
    clear uf
    rintro v O' ⟨N,rfl,rfl,rfl⟩
    rw[am e4]
    refine ae cm (ak F (ah (aM ?_)))
    refine aT (.bool false) results16 F ?_
    exact⟨au Value.bool (am (fun q=>e4 (au cV.a7 q))).symm,trivial⟩
   have NC:=fun(w1:World) (hI:Inv w [oI b2 25 [(vI e.vars),(vI e.start),(.slice Tb e.next.length Wk),(.slice tf e.a7.length tF)],oI b1 25 [(vI d.vars),(vI d.start),(.slice Ta d.next.length Wj),(.slice Tc d.a7.length Wl)]] w1)=>AT w1 Ta Tb Wj Wk vs us d.next e.next (hI.sl h1.outer) (hI.rows h1.rows) (hI.sl h2.outer) (hI.rows h2.rows) hb w7
   refine gk F F F (bm S0 (aX NC) ?_)
   clear NC
   rintro v O' ⟨N,rfl,rfl,rfl⟩
   rw[am e3]
   refine ae cm (ai F (aQ (aQ (aQ (aQ (aQ (ae bX (ak F (ah (aM ?_))))))))))
   refine aT (.bool false) results16 F ?_
   exact⟨au Value.bool (am (fun q=>e3 (au cV.next q))).symm,trivial⟩
  refine aF (aC bK (am e2)) (ae cm (ai F (aQ (aQ (aQ (aQ (aQ (ae bX (ai F ?_)))))))))
  refine aQ (aQ (aQ (aQ (aQ (ae bX (ak F (ah (aM ?_))))))))
  refine aT (.bool false) results16 F ?_
  exact⟨au Value.bool (am (fun q=>e2 (au cV.start q))).symm,trivial⟩
 refine ae (aC bK (am e1)) (ai F (aQ (aQ (aQ (aQ (aQ (ae bX (ai F (aQ ?_)))))))))
 refine aQ (aQ (aQ (aQ (ae bX (ai F (aQ (aQ (aQ ?_))))))))
 refine aQ (aQ (ae bX (ak F (ah (aM ?_)))))
 refine aT (.bool false) results16 F ?_
 exact⟨au Value.bool (am (fun q=>e1 (au cV.vars q))).symm,trivial⟩
theorem KX (w:World) (v:Int) (h0:0≤v) (h6:v≤6):cn prog 31 [vI v] w fun x N=>x=vN (2^v.toNat)∧N=[]:=by
 refine aE func31 F ntmps31 F ?_
 refine aj (ak F (ah (aj (ai F (ae (fU underlying3 underlying101 F (show IntKind.u64.wrap v=v by unfold IntKind.wrap;simp[IntKind.bits,IntKind.signed];omega)) (ae (nA (v:=v.toNat) F (by show Value.int _ v=_;rw[cM h0]) (by omega)) (ak F (ah (aM ?_)))))))))
 refine aT (vN (2^v.toNat)) results31 F ?_
 exact⟨F,F⟩
theorem IN (w:World) (b:Option Addr) (c:Nat) (xs:List Int) (h:Sl w b (ints xs)) (h0:0<xs.length) (hb:xs.length<9223372036854775807):cn prog 121 [.slice b xs.length c] w fun v N=>(∃m,v=vI m∧m∈xs∧ ∀x∈xs,m≤x)∧N=[]:=by
 refine aE func121 F ntmps121 F ?_
 refine aj (ak F (ah (aR (aj (ai F (ae (cQ underlying56) (ae cU (ah (aZ F (fun hc=>?_) (fun hc=>?_))))))))))
 ·exact absurd hc (by omega)
 have acb: ¬xs.length<1:=by omega
 refine aL (aj (ai F (ae (dX (i:=0) underlying56 bF F F (aK h)) (ae (cS underlying3 F F (aK h) gL) (ak F (ah (aR (aj (ak F (ah (aV ?_)))))))))))
 refine ek (fun(k:Nat) ρ O=> ∃(m:Int),O=[]∧1≤k∧k≤xs.length∧m∈xs.take k∧(∀x∈xs.take k,m≤x)∧df [(0,(.slice b xs.length c)),(2,vI 0),(3,vI m),(4,vI (k:Int))] ρ) (fun k=>xs.length-k) 1 ?_ ?_
 ·refine⟨xs[0],F,aS _,h0,?_,?_,⟨F,F,F,F,trivial⟩⟩
  ·show xs[0]∈xs.take (0+1)
   rw[aH h0];simp
  ·show∀x∈xs.take (0+1),_
   rw[aH h0];simp
 rintro k ρ O ⟨m,rfl,hk1,hk,hm,lj,hH⟩
 obtain⟨gA,rfl⟩:=hH.elim
 clear hH
 refine aR (aj (ai F (ai F (ae (cQ underlying56) (ae cU (ah (aZ F (fun hc=>?_) (fun hc=>?_))))))))
 ·have oN:k<xs.length:=by omega
  refine aL (aR (aV (bg (ai F (ai F (ai F (ae (dX (i:=k) underlying56 bF F F (aK h)) (ae (cS underlying3 F F (aK h) gL) (ae (XD F F) (ak F (ah (bg (ai F (ae (lR F F (by omega)) (ak F (ah ?_))))))))))))))))
  refine⟨k+1,by omega,if xs[k]<m then xs[k]else m,F,by omega,by omega,?_,?_,⟨F,F,F,F,trivial⟩⟩
  ·rw[aH oN];split
   ·exact ao _ (List.mem_singleton.2 F)
   ·exact aO _ hm
  ·rw[aH oN]
   intro x hx
   rcases List.mem_append.1 hx with hx|hx
   ·have:=lj x hx;split<;>omega
   ·rw[da]at hx;subst hx;split<;>omega
 have GV: ¬k<xs.length:=by omega
 refine cG ?_
 refine aj (ai F (ak F (ah (aM ?_))))
 refine aT (vI m) results121 F ?_
 rw[br (by omega)]at hm lj
 exact⟨⟨m,F,hm,lj⟩,F⟩
theorem IP (w:World) (b:Option Addr) (c:Nat) (xs:List Int) (h:Sl w b (ints xs)) (h0:0<xs.length) (hb:xs.length<9223372036854775807):cn prog 122 [.slice b xs.length c] w fun v N=>(∃m,v=vI m∧m∈xs∧ ∀x∈xs,x≤m)∧N=[]:=by
 refine aE func122 F ntmps122 F ?_
 refine aj (ak F (ah (aR (aj (ai F (ae (cQ underlying56) (ae cU (ah (aZ F (fun hc=>?_) (fun hc=>?_))))))))))
 ·exact absurd hc (by omega)
 have acb: ¬xs.length<1:=by omega
 refine aL (aj (ai F (ae (dX (i:=0) underlying56 bF F F (aK h)) (ae (cS underlying3 F F (aK h) gL) (ak F (ah (aR (aj (ak F (ah (aV ?_)))))))))))
 refine ek (fun(k:Nat) ρ O=> ∃(m:Int),O=[]∧1≤k∧k≤xs.length∧m∈xs.take k∧(∀x∈xs.take k,x≤m)∧df [(0,(.slice b xs.length c)),(2,vI 0),(3,vI m),(4,vI (k:Int))] ρ) (fun k=>xs.length-k) 1 ?_ ?_
 ·refine⟨xs[0],F,aS _,h0,?_,?_,⟨F,F,F,F,trivial⟩⟩
  ·show xs[0]∈xs.take (0+1)
   rw[aH h0];simp
  ·show∀x∈xs.take (0+1),_
   rw[aH h0];simp
 rintro k ρ O ⟨m,rfl,hk1,hk,hm,lj,hH⟩
 obtain⟨gA,rfl⟩:=hH.elim
 clear hH
 refine aR (aj (ai F (ai F (ae (cQ underlying56) (ae cU (ah (aZ F (fun hc=>?_) (fun hc=>?_))))))))
 ·have oN:k<xs.length:=by omega
  refine aL (aR (aV (bg (ai F (ai F (ai F (ae (dX (i:=k) underlying56 bF F F (aK h)) (ae (cS underlying3 F F (aK h) gL) (ae (XF F F) (ak F (ah (bg (ai F (ae (lR F F (by omega)) (ak F (ah ?_))))))))))))))))
  refine⟨k+1,by omega,if xs[k]>m then xs[k]else m,F,by omega,by omega,?_,?_,⟨F,F,F,F,trivial⟩⟩
  ·rw[aH oN];split
   ·exact ao _ (List.mem_singleton.2 F)
   ·exact aO _ hm
  ·rw[aH oN]
   intro x hx
   rcases List.mem_append.1 hx with hx|hx
   ·have:=lj x hx;split<;>omega
   ·rw[da]at hx;subst hx;split<;>omega
 have GV: ¬k<xs.length:=by omega
 refine cG ?_
 refine aj (ai F (ak F (ah (aM ?_))))
 refine aT (vI m) results122 F ?_
 rw[br (by omega)]at hm lj
 exact⟨⟨m,F,hm,lj⟩,F⟩
theorem jo (w:World) (d:cV) (nb fb:Option Addr) (nc fc:Nat) (vs:List Value) (h:jB w d nb vs fb) (hb:d.next.length<9223372036854775807) (w7: ∀r∈d.next,r.length<9223372036854775807) (zH:d.a7.length<9223372036854775807):
  cn prog 83 [.agg (fE d nb nc fb fc).toArray] w fun v N=>v=vI (dL d:Int)∧N=[]:=by
 refine aE func83 F ntmps83 F ?_
 have Py:=h.rows.1
 let fe:Value:=(.slice nb d.next.length nc)
 refine aj (aq (dE (cs:=[(vI d.vars),(vI d.start),fe,(.slice fb d.a7.length fc)]) (fun b1=>?_)))
 refine ak F (ah (aj (ae (bt underlying25 fR) (ae (bq 0 underlying22) (ae (cQ underlying22) (ak F (ah (aR (aV (aj (ae (bt underlying25 bF) (ae (bq 0 underlying3) ?_))))))))))))
 by_cases Fs:d.vars<0
 ·refine ae (aC cU (ax Fs)) ?_
  refine ai F (aQ (aQ (aQ (ae cm (ak F (ah ?_))))))
  refine b_ ?_
  refine aj (ak F (ah (aM (aB ?_))))
  refine aT (vI 7) results83 F ?_
  refine⟨[],ck (cr _),au (fun z:Nat=>Value.int .i64 (z:Int)) (show 7=dL d from Eq.symm ?_),F⟩
  unfold dL
  rw[aJ (by omega)]
 refine ae (aC cU (am Fs)) (ai F (aF (bt underlying25 bF) (aF (bq 0 underlying3) ?_)))
 by_cases Kt:6<d.vars
 ·refine aF (aC ij (ax Kt)) ?_
  refine ae bX (ak F (ah ?_))
  refine b_ ?_
  refine aj (ak F (ah (aM (aB ?_))))
  refine aT (vI 7) results83 F ?_
  refine⟨[],ck (cr _),au (fun z:Nat=>Value.int .i64 (z:Int)) (show 7=dL d from Eq.symm ?_),F⟩
  unfold dL
  rw[aJ (by omega)]
 refine aF (aC ij (am Kt)) (ae bX (ak F (ah (a8 (aj (ai F (ae bK (ak F (ah (aZ F (fun hc=>?_) (fun hc=>?_)))))))))))
 ·have RY:d.next.length=0:=by omega
  refine aj (ak F (ah (aM (aB ?_))))
  refine aT (vI 3) results83 F ?_
  refine⟨[],ck (cr _),au (fun z:Nat=>Value.int .i64 (z:Int)) (show 3=dL d from Eq.symm ?_),F⟩
  unfold dL
  rw[aA (by simp;omega),aJ RY]
 have Ai: ¬d.next.length=0:=by omega
 refine aj (ai F (ae ij (ak F (ah (aZ F (fun hc=>?_) (fun hc=>?_))))))
 ·have vQ:d.next.length>4096:=by omega
  refine aj (ak F (ah (aM (aB ?_))))
  refine aT (vI 4) results83 F ?_
  refine⟨[],ck (cr _),au (fun z:Nat=>Value.int .i64 (z:Int)) (show 4=dL d from Eq.symm ?_),F⟩
  unfold dL
  rw[aA (by simp;omega),aA Ai,aJ vQ]
 have xF: ¬d.next.length>4096:=by omega
 refine aj (ae (bt underlying25 dH) (ae (bq 0 underlying23) (ae (cQ underlying23) (ai F (ae dW (ak F (ah (aZ F (fun hc=>?_) (fun hc=>?_)))))))))
 ·have lS:d.a7.length≠d.next.length:=by omega
  refine aj (ak F (ah (aM (aB ?_))))
  refine aT (vI 2) results83 F ?_
  refine⟨[],ck (cr _),au (fun z:Nat=>Value.int .i64 (z:Int)) (show 2=dL d from Eq.symm ?_),F⟩
  unfold dL
  rw[aA (by simp;omega),aA Ai,aA xF,aJ lS]
 have CI: ¬d.a7.length≠d.next.length:=by omega
 refine aj (ae (bt underlying25 bF) (ae (bq 0 underlying3) ?_))
 by_cases Bm:d.start<0
 ·refine ae (aC cU (ax Bm)) ?_
  refine ai F (aQ (aQ (aQ (aQ (ae cm (ak F (ah ?_)))))))
  refine b_ ?_
  refine aj (ak F (ah (aM (aB ?_))))
  refine aT (vI 8) results83 F ?_
  refine⟨[],ck (cr _),au (fun z:Nat=>Value.int .i64 (z:Int)) (show 8=dL d from Eq.symm ?_),F⟩
  unfold dL
  rw[aA (by simp;omega),aA Ai,aA xF,aA (by simpa using CI),aJ (by omega)]
 refine ae (aC cU (am Bm)) (ai F (aF (bt underlying25 bF) (aF (bq 0 underlying3) (aF aI ?_))))
 by_cases RZ:(d.next.length:Int)≤d.start
 ·refine aF (aC kV (ax RZ)) ?_
  refine ae bX (ak F (ah ?_))
  refine b_ ?_
  refine aj (ak F (ah (aM (aB ?_))))
  refine aT (vI 8) results83 F ?_
  refine⟨[],ck (cr _),au (fun z:Nat=>Value.int .i64 (z:Int)) (show 8=dL d from Eq.symm ?_),F⟩
  unfold dL
  rw[aA (by simp;omega),aA Ai,aA xF,aA (by simpa using CI),aJ (by omega)]
 refine aF (aC kV (am RZ)) (ae bX (ak F (ah (a8 (aL (aR (aj (ae (bt underlying25 fR) (ae (bq 0 underlying22) (ae (cQ underlying22) (ai F (ah (aV ?_)))))))))))))
 let eh:Lx.Item:=oI b1 25 [(vI d.vars),(vI d.start),(.slice nb d.next.length nc),(.slice fb d.a7.length fc)]
 refine ek (fun(k:Nat) ρ O=>O=[eh]∧k≤d.next.length∧tI (2^d.vars.toNat) d.next.length (d.next.drop k)=dL d∧df [(0,(.agg #[(vI d.vars),(vI d.start),fe,(.slice fb d.a7.length fc)])),(1,(.pointer (aD b1))),(3,vI (d.next.length:Int)),(9,.bool false),(18,.bool (decide ((d.next.length:Int)=0))),(21,.bool (decide ((d.next.length:Int)>4096))),(24,.bool (decide ((d.a7.length:Int)≠(d.next.length:Int)))),(30,.bool false),(41,fe),(42,vI (d.next.length:Int)),(43,vI (k:Int))] ρ) (fun k=>d.next.length-k) 0 ?_ ?_
 ·refine⟨F,bl _,?_,(.of F)⟩
  unfold dL
  rw[aA (by simp;omega),aA Ai,aA xF,aA (by simpa using CI),aA (by omega)];rfl
 rintro k ρ O ⟨rfl,hk,hr,hH⟩
 obtain⟨gA,rfl⟩:=hH.elim
 clear hH
 refine aj (ae cU (ah (aR (aZ F (fun hc=>?_) (fun hc=>?_)))))
 ·have mn:k<d.next.length:=by omega
  obtain⟨vb1,vc1,g1,s1⟩:=h.rows.get mn
  have OS:=w7 _ (aN mn)
  refine aL (aR (aV (aj (ae (dX (i:=k) underlying22 cZ F F (aK h.outer)) (ae (cS underlying56 F F (aK h.outer) g1) (ak F (ah (aR (aj (ai F (ae (cQ underlying56) (ae (bt underlying25 bF) (ae (bq 0 underlying3) (ae (nA (v:=d.vars.toNat) F (by show Value.int _ d.vars=_;rw[cM (by omega)]) (by omega)) (ae dW (ah (aZ F (fun hc=>?_) (fun hc=>?_))))))))))))))))))
  ·have KY:d.next[k].length≠2^d.vars.toNat:=by omega
   refine aj (ak F (ah (aM (aB ?_))))
   refine aT (vI 2) results83 F ?_
   refine⟨[],ck (cr _),au (fun z:Nat=>Value.int .i64 (z:Int)) (show 2=dL d from Eq.symm ?_),F⟩
   rw[←hr,tJ mn,aJ KY]
  have CJ: ¬d.next[k].length≠2^d.vars.toNat:=by omega
  have R0:0<d.next[k].length:=by
   have:=Nat.pow_pos (n:=d.vars.toNat) (show 0<2 by omega)
   omega
  refine aL (aj (ai F ?_))
  have KZ:=fun(w1:World) (hI:Inv w [eh] w1)=>IN w1 vb1 vc1 d.next[k] (hI.sl s1) R0 OS
  refine aq (bm TE (aX KZ) ?_)
  clear KZ
  rintro v O' ⟨N,rfl,⟨m1,rfl,hm1,XG⟩,rfl⟩
  by_cases Ks:m1<0
  ·refine ae (aC cU (ax Ks)) ?_
   refine ai F (aQ (aQ (aQ (aQ (ae cm (ah ?_))))))
   refine b_ ?_
   refine aj (ak F (ah (aM (aB ?_))))
   refine aT (vI 8) results83 F ?_
   refine⟨[],ck (cr _),au (fun z:Nat=>Value.int .i64 (z:Int)) (show 8=dL d from Eq.symm ?_),F⟩
   rw[←hr,tJ mn,aA (by simpa using CJ),aA ?_]
   intro hh
   simp only[vS,fJ,ay,bT]at hh
   have:=hh _ hm1;omega
  refine ae (aC cU (am Ks)) (ai F (aF aI ?_))
  have K0:=fun(w1:World) (hI:Inv w [eh] w1)=>IP w1 vb1 vc1 d.next[k] (hI.sl s1) R0 OS
  refine gk F F F (bm TF (aX K0) ?_)
  clear K0
  rintro v O' ⟨N,rfl,⟨m2,rfl,CK,XH⟩,rfl⟩
  refine aF aI ?_
  by_cases he1:(d.next.length:Int)≤m2
  ·refine aF (aC kV (ax he1)) ?_
   refine ae bX (ah ?_)
   refine b_ ?_
   refine aj (ak F (ah (aM (aB ?_))))
   refine aT (vI 8) results83 F ?_
   refine⟨[],ck (cr _),au (fun z:Nat=>Value.int .i64 (z:Int)) (show 8=dL d from Eq.symm ?_),F⟩
   rw[←hr,tJ mn,aA (by simpa using CJ),aA ?_]
   intro hh
   simp only[vS,fJ,ay,bT]at hh
   have:=hh _ CK;omega
  refine aF (aC kV (am he1)) (ae bX (ah (a8 (aL (bg (ae (lR F F (by omega)) (ai F (ah ?_))))))))
  refine⟨k+1,by omega,F,by omega,?_,(.of F)⟩
  rw[←hr,tJ mn,aA (by simpa using CJ),aJ ?_]
  simp only[vS,fJ,ay,bT]
  intro x hx
  have:=XG x hx;have:=XH x hx;omega
 have R1: ¬k<d.next.length:=by omega
 refine cG ?_
 refine aj (ak F (ah (aM (aB ?_))))
 refine aT (vI 0) results83 F ?_
 refine⟨[],ck (cr _),au (fun z:Nat=>Value.int .i64 (z:Int)) (show 0=dL d from Eq.symm ?_),F⟩
 rw[←hr,IQ (by omega)]
open Go.ChangeShapes Go.WideShapes Go.ChangeAt Go.RowKit Go.Lx _root_.Go.Proofs.Tryz
set_option maxRecDepth 100000
theorem own:ownKnob Tryz.prog.godebug=none:=by kernel_rfl
theorem laidOut:laidOutB prog=true:=by kernel_rfl
theorem TD:Tryz.prog.readableRec 3=true:=by kernel_rfl
theorem lt3:3<Tryz.prog.types.size:=of_decide_eq_true (by kernel_rfl)
theorem Px:Tryz.prog.readableRec 43=true:=by kernel_rfl
theorem ab_:43<Tryz.prog.types.size:=of_decide_eq_true (by kernel_rfl)
theorem Hk:Tryz.prog.cellsOf 5=1:=by kernel_rfl
theorem Qn:0<Tryz.prog.bytesOf 5:=of_decide_eq_true (by kernel_rfl)
theorem Qo:Tryz.prog.cellsOf 3=1:=by kernel_rfl
theorem Pw:Tryz.prog.readableRec 32=true:=by kernel_rfl
theorem ab9:32<Tryz.prog.types.size:=of_decide_eq_true (by kernel_rfl)
theorem Qp:Tryz.prog.cellsOf 72=5:=by kernel_rfl
theorem Qq:0<Tryz.prog.bytesOf 72:=of_decide_eq_true (by kernel_rfl)
theorem ab8 {n:Nat} (h:n≤reachBytes):n<4611686018427387904:=jW h (by decide)
theorem Tz {H:Type} {enc:TypeId×Value→H} {W:World} {r:Reach} {base:Nat} {v:Value} {d:DataW H} {p:List MemPlace} (mT:Value.okWide prog W r base 32 v) (hw: ∀m∈d.weights prog 32,m≤reachBytes) (h:DataW.Trod enc prog W 0 (fun _=>true) true 32 v d p):
  ∃(b:Option Addr) (cp:Nat) (es:List eC),v=.slice b es.length cp∧es.length≤reachBytes∧es.length≤cp∧Sl W b (bQ es)∧ ∀x∈es,x.p<256∧x.n<256:=
 PA underlying32 underlying72 Qp Qq F F F F F F F F F F underlying3 underlying5 Qo Hk mT hw h
def L6 (cs:Array Value):Obj→Obj
 | .cells _ t frozen=>.cells cs t frozen
 |o=>o
theorem XB {H:Type} {enc:TypeId×Value→H} {W:World} {r:Reach} {base:Nat} {v:Value} {d:DataW H} {p:List MemPlace} (mT:Value.okWide prog W r base 43 v) (hw: ∀m∈d.weights prog 43,m≤reachBytes) (h:DataW.Trod enc prog W 0 (fun _=>true) true 43 v d p):
  ∃(l:List Nat) (b:Option Addr) (c:Nat),v=.slice b l.length c∧(Sl W b (pD l)∧ ∀x∈l,x<256)∧l.length≤reachBytes:=
 IR underlying43 underlying5 Hk Qn mT hw h
noncomputable def uY (os:Os):World:=
 {World.holding prog os ⟨#[],#[],[]⟩with heap:=((((World.holding prog os ⟨#[],#[],[]⟩).heap.modify 0 (L6 #[.int .u64 1,.int .u64 10,.int .u64 100,.int .u64 1000,.int .u64 10000,.int .u64 100000,.int .u64 1000000,.int .u64 10000000,.int .u64 100000000,.int .u64 1000000000,.int .u64 10000000000,.int .u64 100000000000,.int .u64 1000000000000,.int .u64 10000000000000,.int .u64 100000000000000,.int .u64 1000000000000000,.int .u64 10000000000000000,.int .u64 100000000000000000,.int .u64 1000000000000000000,.int .u64 10000000000000000000])).modify 1 (L6 #[.int .u8 0,.int .u8 1,.int .u8 28,.int .u8 2,.int .u8 29,.int .u8 14,.int .u8 24,.int .u8 3,.int .u8 30,.int .u8 22,.int .u8 20,.int .u8 15,.int .u8 25,.int .u8 17,.int .u8 4,.int .u8 8,.int .u8 31,.int .u8 27,.int .u8 13,.int .u8 23,.int .u8 21,.int .u8 19,.int .u8 16,.int .u8 7,.int .u8 26,.int .u8 12,.int .u8 18,.int .u8 6,.int .u8 11,.int .u8 5,.int .u8 10,.int .u8 9])).modify 2 (L6 #[.int .u8 0,.int .u8 1,.int .u8 56,.int .u8 2,.int .u8 57,.int .u8 49,.int .u8 28,.int .u8 3,.int .u8 61,.int .u8 58,.int .u8 42,.int .u8 50,.int .u8 38,.int .u8 29,.int .u8 17,.int .u8 4,.int .u8 62,.int .u8 47,.int .u8 59,.int .u8 36,.int .u8 45,.int .u8 43,.int .u8 51,.int .u8 22,.int .u8 53,.int .u8 39,.int .u8 33,.int .u8 30,.int .u8 24,.int .u8 18,.int .u8 12,.int .u8 5,.int .u8 63,.int .u8 55,.int .u8 48,.int .u8 27,.int .u8 60,.int .u8 41,.int .u8 37,.int .u8 16,.int .u8 46,.int .u8 35,.int .u8 44,.int .u8 21,.int .u8 52,.int .u8 32,.int .u8 23,.int .u8 11,.int .u8 54,.int .u8 26,.int .u8 40,.int .u8 15,.int .u8 34,.int .u8 20,.int .u8 31,.int .u8 10,.int .u8 25,.int .u8 14,.int .u8 19,.int .u8 9,.int .u8 13,.int .u8 8,.int .u8 7,.int .u8 6]))}
theorem XC {W:World} (hL:laidMetH prog [("math/bits.deBruijn32tab",Rows.laid_math_bits_deBruijn32tab),("math/bits.deBruijn64tab",Rows.laid_math_bits_deBruijn64tab),("internal/strconv.uint64pow10",Rows.laid_internal_strconv_uint64pow10)] W):dA prog W:=by
 have h:laidMet prog [("math/bits.deBruijn32tab",Rows.laid_math_bits_deBruijn32tab),("math/bits.deBruijn64tab",Rows.laid_math_bits_deBruijn64tab),("internal/strconv.uint64pow10",Rows.laid_internal_strconv_uint64pow10)] W:=hL
 obtain⟨ps,h,_⟩:=h
 have hz:=h
 obtain⟨_,h⟩:=oD h
 obtain⟨_,h⟩:=oD h
 obtain⟨_,hz⟩:=oD hz
 exact dA.of (sk (g:=0) (t:=282) (e:=256) (n:=20) (by kernel_rfl) (by kernel_rfl) (by kernel_rfl) underlying282 underlying256 (by kernel_rfl) (by kernel_rfl) h) (.inr (sk (g:=2) (t:=298) (e:=5) (n:=64) (by kernel_rfl) (by kernel_rfl) (by kernel_rfl) underlying298 underlying5 (by kernel_rfl) (by kernel_rfl) hz))
end Go.Proofs.YtgdbfideeeegmaaGreatDoor


/- Contracts of functions; conditions: those each theorem names. -/
import Derived.Shelf.Strconv.Itoa3
import Derived.Lib.AppendIntMem
import Derived.Lib.TrailingZeros
import Derived.Maps.RangeRun
import Derived.OpenShut
import Derived.Deep.DeepHandedRow
import Derived.Deep.Matrix
import Derived.Deep.Grids
import Derived.WideKeyArgs
import Derived.SizedLaws
import Derived.Shelf.Sort.Plain
import Derived.Shelf.Slices.In.SortNone
import Derived.Shelf.Slices.CompactI
import Derived.Shelf.Slices.SearchI
import Derived.Shelf.Slices.Empties
import Derived.Shelf.Spec.SlicesInsert
import Derived.Shelf.Spec.SlicesInsertGrow
import Derived.Deep.Slices
import Derived.Test.YtgdbfideeeegmaaGreatDoorA0
set_option linter.unusedSectionVars false
set_option linter.unusedSimpArgs false
set_option linter.unusedVariables false
set_option linter.unnecessarySimpa false
set_option maxHeartbeats 8000000
set_option maxRecDepth 20000
namespace Go.Lx
section
variable {α β:Type} [DecidableEq α] [DecidableEq β]
def xn (l:List α):List Nat:=l.map fun k=>ix k (dd l)
theorem th (l:List α):(xn l).length=l.length:=ar _
theorem lH {l:List α} {i:Nat} {a:α} (h:l[i]? =some a):(xn l)[i]? =some (ix a (dd l)):=by
 rw[xn,bi,h];rfl
theorem HX {l:List α} {i j:Nat} {a b:α} (hi:l[i]? =some a) (hj:l[j]? =some b):(xn l)[i]? =(xn l)[j]? ↔a=b:=by
 rw[lH hi,lH hj]
 refine⟨fun h=>Wr (ku.2 (bJ hi)) (ku.2 (bJ hj)) (db h),fun h=>h▸rfl⟩
theorem lg {l:List α} {a:α} (h:a∈l):dd (l++[a])=dd l:=by
 rw[Ce,add,aJ (ku.2 h)]
theorem lh {l:List α} {a:α} (h:a∉l):dd (l++[a])=dd l++[a]:=by
 rw[Ce,add,aA (fun hh=>h (ku.1 hh))]
theorem JP: ∀zs:List (α×β),(∀p∈zs,∀q∈zs,p.1=q.1↔p.2=q.2)→
  (dd (zs.map Prod.fst)).length=(dd (zs.map Prod.snd)).length∧ ∀p∈zs,ix p.1 (dd (zs.map Prod.fst))=ix p.2 (dd (zs.map Prod.snd)):=by
 refine pw (fun _=>⟨F,fun p hp=>by simp at hp⟩) ?_
 intro zs z ih h
 obtain⟨h1,h2⟩:=ih fun p hp q hq=>h p (aO _ hp) q (aO _ hq)
 have hz:z∈zs++[z]:=by simp
 have sd:z.1∈zs.map Prod.fst↔z.2∈zs.map Prod.snd:=by
  constructor
  ·intro hm
   obtain⟨p,hp,e⟩:=List.mem_map.1 hm
   exact List.mem_map.2 ⟨p,hp,((h p (aO _ hp) z hz).1 e)⟩
  ·intro hm
   obtain⟨p,hp,e⟩:=List.mem_map.1 hm
   exact List.mem_map.2 ⟨p,hp,((h p (aO _ hp) z hz).2 e)⟩
 simp only[bj,cD,fV]
 by_cases hm:z.1∈zs.map Prod.fst
 ·rw[lg hm,lg (sd.1 hm)]
  refine⟨h1,fun p hp=>?_⟩
  rcases List.mem_append.1 hp with hp|hp
  ·exact h2 p hp
  ·simp only[da]at hp
   subst hp
   obtain⟨q,hq,e⟩:=List.mem_map.1 hm
   have e2:=(h q (aO _ hq) p hz).1 e
   rw[←e,←e2];exact h2 q hq
 ·have CK:z.2∉zs.map Prod.snd:=fun hh=>hm (sd.2 hh)
  rw[lh hm,lh CK]
  refine⟨by simp[h1],fun p hp=>?_⟩
  rcases List.mem_append.1 hp with hp|hp
  ·rw[lI (ku.2 (List.mem_map_of_mem hp)),lI (ku.2 (List.mem_map_of_mem hp))]
   exact h2 p hp
  ·simp only[da]at hp
   subst hp
   rw[fZ (fun hh=>hm (ku.1 hh)),fZ (fun hh=>CK (ku.1 hh)),h1]
   simp[ix]
theorem NJ: ∀zs:List (α×β),(∀p∈zs,∀q∈zs,p.1=q.1→p.2=q.2)→
  (dd (zs.map Prod.snd)).length≤(dd (zs.map Prod.fst)).length∧((dd (zs.map Prod.snd)).length=(dd (zs.map Prod.fst)).length→ ∀p∈zs,∀q∈zs,p.2=q.2→p.1=q.1):=by
 refine pw (fun _=>⟨aS _,fun _ p hp=>by simp at hp⟩) ?_
 intro zs z ih h
 obtain⟨h1,h2⟩:=ih fun p hp q hq=>h p (aO _ hp) q (aO _ hq)
 have hz:z∈zs++[z]:=by simp
 simp only[bj,cD,fV]
 by_cases hm:z.1∈zs.map Prod.fst
 ·obtain⟨q,hq,e⟩:=List.mem_map.1 hm
  have e2:=h q (aO _ hq) z hz e
  have CK:z.2∈zs.map Prod.snd:=List.mem_map.2 ⟨q,hq,e2⟩
  rw[lg hm,lg CK]
  refine⟨h1,fun he p hp p' Xd ee=>?_⟩
  have Xb:=h2 he
  have lift: ∀p∈zs++[z],∃p0∈zs,p0.1=p.1∧p0.2=p.2:=fun p hp=>by
   rcases List.mem_append.1 hp with hp|hp
   ·exact⟨p,hp,F,F⟩
   ·simp only[da]at hp;subst hp;exact⟨q,hq,e,e2⟩
  obtain⟨a,ha,a1,a2⟩:=lift p hp
  obtain⟨b,hb,b1,b2⟩:=lift p' Xd
  rw[←a1,←b1];exact Xb a ha b hb (by rw[a2,b2,ee])
 ·rw[lh hm]
  by_cases CK:z.2∈zs.map Prod.snd
  ·rw[lg CK]
   refine⟨by simp;omega,fun he=>?_⟩
   simp at he;omega
  ·rw[lh CK]
   refine⟨by simp;omega,fun he p hp p' Xd ee=>?_⟩
   have Xb:=h2 (by simpa using he)
   rcases List.mem_append.1 hp with gp|gp
   ·rcases List.mem_append.1 Xd with Ws|Ws
    ·exact Xb p gp p' Ws ee
    ·have e:=List.mem_singleton.1 Ws
     exact(CK (List.mem_map.2 ⟨p,gp,by rw[ee,e]⟩)).elim
   ·have e:=List.mem_singleton.1 gp
    rcases List.mem_append.1 Xd with Ws|Ws
    ·exact(CK (List.mem_map.2 ⟨p',Ws,by rw[←ee,e]⟩)).elim
    ·rw[e,List.mem_singleton.1 Ws]
theorem nW: ∀ {l:List α} {m:List β},l.length=m.length→(l.zip m).map Prod.fst=l∧(l.zip m).map Prod.snd=m
 | [],[],_=>⟨F,F⟩
 |a::l,b::m,h=>by
  obtain⟨h1,h2⟩:=nW (l:=l) (m:=m) (by simpa using h)
  simp[h1,h2]
theorem Cg {l:List α} {m:List β} (h:l.length=m.length) {p:α×β} (hp:p∈l.zip m): ∃i:Nat,l[i]? =some p.1∧m[i]? =some p.2:=by
 obtain⟨i,hi⟩:=List.getElem?_of_mem hp
 refine⟨i,?_,?_⟩
 ·have:=au (Option.map Prod.fst) hi
  rw[←bi,(nW h).1]at this;simpa using this
 ·have:=au (Option.map Prod.snd) hi
  rw[←bi,(nW h).2]at this;simpa using this
theorem AY {l:List α} {m:List β} (hl:l.length=m.length) (h: ∀(i j:Nat) (a b:α) (a' b':β),l[i]? =some a→l[j]? =some b→m[i]? =some a'→m[j]? =some b'→(a=b↔a'=b')):xn l=xn m∧(dd l).length=(dd m).length:=by
 have h0:=JP (l.zip m) fun p hp q hq=>by
  obtain⟨i,a1,a2⟩:=Cg hl hp
  obtain⟨j,b1,b2⟩:=Cg hl hq
  exact h i j _ _ _ _ a1 b1 a2 b2
 rw[(nW hl).1,(nW hl).2]at h0
 refine⟨?_,h0.1⟩
 apply List.ext_getElem?
 intro i
 by_cases hi:i<l.length
 ·have IW:i<m.length:=by omega
  rw[lH (ap hi),lH (ap IW)]
  have:(l[i],m[i])∈l.zip m:=by
   apply bJ (i:=i)
   rw[List.getElem?_zip_eq_some]
   exact⟨ap hi,ap IW⟩
  exact au some (h0.2 _ this)
 ·rw[bY (by rw[th];omega),bY (by rw[th];omega)]
end
def Pg (d:cV):Nat→Nat→Nat→Bool
 |0,s,t=>dF d s !=dF d t
 |k+1,s,t=>Pg d k s t||(List.range (ez d)).any fun x=>Pg d k (eS d s x) (eS d t x)
theorem uD (d:cV): ∀k s t,Pg d k s t=true↔ ∃u,Wd d u∧u.length≤k∧dst d s t u
 |0,s,t=>by
  simp only[Pg,bne_iff_ne]
  constructor
  ·exact fun h=>⟨[],fun x hx=>by simp at hx,aS _,h⟩
  ·rintro⟨u,_,hl,h⟩
   have:u=[]:=List.eq_nil_of_length_eq_zero (by omega)
   subst this;exact h
 |k+1,s,t=>by
  simp only[Pg,Bool.or_eq_true,cY,e_,uD d k]
  constructor
  ·rintro(⟨u,h1,h2,h3⟩|⟨x,hx,u,h1,h2,h3⟩)
   ·exact⟨u,h1,by omega,h3⟩
   ·refine⟨x::u,fun y hy=>?_,by simp;omega,h3⟩
    rcases List.mem_cons.1 hy with rfl|hy
    ·exact hx
    ·exact h1 y hy
  ·rintro⟨u,h1,h2,h3⟩
   cases u with
   |nil=>exact .inl ⟨[],h1,by simp,h3⟩
   |cons x u=>exact .inr ⟨x,h1 x (by simp),u,fun y hy=>h1 y (by simp[hy]),by simpa using h2,h3⟩
theorem oy {d:cV} (hv:Val d) {s x:Nat} (hs:s<d.next.length) (hx:x<ez d):eS d s x<d.next.length:=(hv.gT hs hx).1
theorem NK {d:cV} (hv:Val d) {cs:List Nat} (oO:cs.length=d.next.length) {s t:Nat} (hs:s<d.next.length) (ht:t<d.next.length):
  yN d cs s=yN d cs t↔cs.getD s 0=cs.getD t 0∧ ∀x,x<ez d→cs.getD (eS d s x) 0=cs.getD (eS d t x) 0:=by
 have hls:(d.next.getD s []).length=ez d:=by simp[hs];exact hv.len _ (aN hs)
 have gw:(d.next.getD t []).length=ez d:=by simp[ht];exact hv.len _ (aN ht)
 have row: ∀s,(d.next.getD s []).length=ez d→ ∀x,x<ez d→(gj cs (d.next.getD s []))[x]? =some (cs.getD (eS d s x) 0):=by
  intro s hl x hx
  have tK:x<(d.next.getD s []).length:=by omega
  have e:(d.next.getD s []).getD x 0=(d.next.getD s [])[x]:=by rw[az,ap tK];rfl
  rw[gj,bi,ap tK,eS,e]
  rfl
 constructor
 ·intro h
  obtain⟨h1,h2⟩:=Lo h
  refine⟨h1,fun x hx=>?_⟩
  have a:=row s hls x hx
  rw[h2,row t gw x hx]at a
  exact(db a).symm
 ·rintro⟨h1,h2⟩
  unfold yN
  rw[h1]
  congr 1
  apply List.ext_getElem?
  intro x
  by_cases hx:x<ez d
  ·rw[row s hls x hx,row t gw x hx,h2 x hx]
  ·rw[bY (by rw[iS];omega),bY (by rw[iS];omega)]
theorem wC (d:cV) (cs:List Nat):i_ d cs=xn (jl d cs):=rfl
theorem ns {d:cV} {cs:List Nat} {s:Nat} (hs:s<d.next.length):(jl d cs)[s]? =some (yN d cs s):=by simp[jl,hs]
theorem tk {d:cV} {s:Nat} (hs:s<d.next.length):(mN d)[s]? =some (if dF d s≠dF d 0 then 1 else 0):=by
 simp[mN,hs,dF]
theorem kL {l:List Nat} {i a:Nat} (h:l[i]? =some a):l.getD i 0=a:=by rw[az,h];rfl
theorem pZ {d:cV} (hv:Val d): ∀k s t,s<d.next.length→t<d.next.length→((iq d k).getD s 0=(iq d k).getD t 0↔Pg d k s t=false)
 |0,s,t,hs,ht=>by
  rw[iq,kL (tk hs),kL (tk ht),Pg]
  cases dF d s<;>cases dF d t<;>cases dF d 0<;>simp
 |k+1,s,t,hs,ht=>by
  have ih:=pZ hv k
  rw[iq,wC]
  have h1:=HX (ns (cs:=iq d k) hs) (ns (cs:=iq d k) ht)
  have e1:(xn (jl d (iq d k))).getD s 0=(xn (jl d (iq d k))).getD t 0↔(xn (jl d (iq d k)))[s]? =(xn (jl d (iq d k)))[t]? :=by
   rw[lH (ns hs),lH (ns ht),kL (lH (ns hs)),kL (lH (ns ht))]
   simp
  rw[e1,h1,NK hv (fD d k) hs ht,ih s t hs ht,Pg,Bool.or_eq_false_iff]
  refine and_congr Iff.rfl ?_
  rw[List.any_eq_false]
  constructor
  ·intro h x hx
   have tK:=List.mem_range.1 hx
   rw[Bool.not_eq_true,←ih _ _ (oy hv hs tK) (oy hv ht tK)]
   exact h x tK
  ·intro h x hx
   rw[ih _ _ (oy hv hs hx) (oy hv ht hx),←Bool.not_eq_true]
   exact h x (List.mem_range.2 hx)
section
variable {α:Type} [DecidableEq α]
theorem Q7 (l:List α):xn (xn l)=xn l:=by
 refine(AY (by rw[th]) ?_).1
 intro i j a b a' b' hi hj wI An
 have:=HX wI An
 rw[hi,hj]at this
 simpa using this
def first (p:Nat→Bool):Nat→Nat
 |0=>0
 |n+1=>if first p n<n then first p n else if p n then n else n+1
theorem NL (p:Nat→Bool): ∀n,first p n≤n
 |0=>aS _
 |n+1=>by
  have:=NL p n
  rw[first]
  split
  ·omega
  ·split<;>omega
end
theorem wD: ∀(l:List Nat),(∀x∈l,x≤1)→l.foldl add [0,1]=[0,1]∧(l.foldl add [0]=[0]∧1∉l∨l.foldl add [0]=[0,1]∧1∈l)
 | [],_=>by simp
 |x::l,h=>by
  obtain⟨h1,h2⟩:=wD l fun y hy=>h y (by simp[hy])
  have hx:=h x (by simp)
  have:x=0∨x=1:=by omega
  rcases this with rfl|rfl
  ·refine⟨?_,?_⟩
   ·rw[cP,show add [0,1] 0=[0,1] by decide];exact h1
   ·rw[cP,show add [0] 0=[0] by decide]
    rcases h2 with⟨a,b⟩|⟨a,b⟩
    ·exact .inl ⟨a,by simp[b]⟩
    ·exact .inr ⟨a,by simp[b]⟩
  ·refine⟨?_,?_⟩
   ·rw[cP,show add [0,1] 1=[0,1] by decide];exact h1
   ·rw[cP,show add [0] 1=[0,1] by decide]
    exact .inr ⟨h1,by simp⟩
theorem aaD {l:List Nat} (h0:l.headD 0=0) (h: ∀x∈l,x≤1):xn l=l:=by
 cases l with
 |nil=>rfl
 |cons a l=>
  simp at h0
  subst h0
  have e:dd (0::l)=l.foldl add [0]:=by simp[dd,add]
  have h2:=(wD l fun y hy=>h y (by simp[hy])).2
  rw[xn,e]
  conv=>rhs;rw[←List.map_id (0::l)]
  apply List.map_congr_left
  intro x hx
  have QQ:=h x hx
  have:x=0∨x=1:=by omega
  rcases this with rfl|rfl
  ·rcases h2 with⟨a,b⟩|⟨a,b⟩<;>rw[a]<;>decide
  ·rcases h2 with⟨a,b⟩|⟨a,b⟩
   ·simp at hx;exact absurd hx b
   ·rw[a];decide
theorem p6 (d:cV): ∀k,xn (iq d k)=iq d k
 |0=>by
  refine aaD ?_ ?_
  ·rw[iq]
   cases e:(mN d)with
   |nil=>rfl
   |cons a l=>
    have:(mN d)[0]? =some a:=by rw[e];rfl
    have hn:0<d.next.length:=by
     have:(mN d).length=d.next.length:=by simp[mN]
     rw[e]at this;simp at this;omega
    rw[tk hn]at this
    simpa using this.symm
  ·intro x hx
   obtain⟨s,_,rfl⟩:=List.mem_map.1 hx
   split<;>omega
 |k+1=>by rw[iq,wC,Q7]
theorem Eo {d:cV} {k m s t:Nat} (h:k≤m) (hd:Pg d k s t=true):Pg d m s t=true:=by
 obtain⟨u,h1,h2,h3⟩:=(uD d k s t).1 hd
 exact(uD d m s t).2 ⟨u,h1,by omega,h3⟩
theorem HY {d:cV} {k s:Nat} (hs:s<d.next.length):(iq d k)[s]? =some ((iq d k).getD s 0):=by
 have:s<(iq d k).length:=by rw[fD];exact hs
 rw[az,ap this];rfl
def Ci (d:cV) (k:Nat):Nat:=(dd (iq d k)).length
theorem JQ {d:cV} (hv:Val d) (k:Nat):Ci d k≤Ci d (k+1)∧(Ci d k=Ci d (k+1)→iq d (k+1)=iq d k):=by
 have hl:(iq d (k+1)).length=(iq d k).length:=by rw[fD,fD]
 have at_: ∀p∈(iq d (k+1)).zip (iq d k),∃s,s<d.next.length∧(iq d (k+1)).getD s 0=p.1∧(iq d k).getD s 0=p.2:=fun p hp=>by
  obtain⟨i,a1,a2⟩:=Cg hl hp
  refine⟨i,?_,kL a1,kL a2⟩
  have:=(List.getElem?_eq_some_iff.1 a2).1
  rwa[fD]at this
 have h:=NJ ((iq d (k+1)).zip (iq d k)) fun p hp q hq e=>by
  obtain⟨s,hs,a1,a2⟩:=at_ p hp
  obtain⟨t,ht,b1,b2⟩:=at_ q hq
  rw[←a1,←b1,pZ hv _ s t hs ht]at e
  rw[←a2,←b2,pZ hv _ s t hs ht,←Bool.not_eq_true]
  intro hh
  rw[Eo (Nat.le_succ k) hh]at e;cases e
 rw[(nW hl).1,(nW hl).2]at h
 refine⟨h.1,fun e=>?_⟩
 have h2:=h.2 e
 rw[←p6 d (k+1),←p6 d k]
 refine(AY hl ?_).1
 intro i j a b a' b' hi hj wI An
 have hm: ∀ {i a a'},(iq d (k+1))[i]? =some a→(iq d k)[i]? =some a'→(a,a')∈(iq d (k+1)).zip (iq d k):=fun {i a a'} x y=>by
  apply bJ (i:=i)
  rw[List.getElem?_zip_eq_some]
  exact⟨x,y⟩
 refine⟨fun e=>?_,h2 _ (hm hi wI) _ (hm hj An)⟩
 have Fx:i<d.next.length:=by have:=(List.getElem?_eq_some_iff.1 wI).1;rwa[fD]at this
 have hjn:j<d.next.length:=by have:=(List.getElem?_eq_some_iff.1 An).1;rwa[fD]at this
 rw[←kL hi,←kL hj,pZ hv _ i j Fx hjn]at e
 rw[←kL wI,←kL An,pZ hv _ i j Fx hjn,←Bool.not_eq_true]
 intro hh
 rw[Eo (Nat.le_succ k) hh]at e;cases e
theorem Q8 (d:cV) (k:Nat):Ci d k≤d.next.length:=by
 have:=vw (iq d k)
 rw[fD]at this;exact this
theorem NM {d:cV} (hv:Val d) (k:Nat):0<Ci d k:=by
 have h:(iq d k).getD 0 0∈dd (iq d k):=ku.2 (bJ (HY hv.n0))
 exact List.length_pos_of_mem h
theorem Ep {d:cV} (hv:Val d): ∀k,(∃j,j<k∧iq d (j+1)=iq d j)∨k+1≤Ci d k
 |0=>.inr (NM hv 0)
 |k+1=>by
  rcases Ep hv k with⟨j,hj,h⟩|h
  ·exact .inl ⟨j,by omega,h⟩
  ·obtain⟨h1,h2⟩:=JQ hv k
   by_cases e:Ci d k=Ci d (k+1)
   ·exact .inl ⟨k,by omega,h2 e⟩
   ·exact .inr (by omega)
theorem NN {d:cV} (hv:Val d): ∀m,d.next.length≤m→iq d m=iq d d.next.length:=by
 intro m hm
 rcases Ep hv d.next.length with⟨j,hj,h⟩|h
 ·have hs:i_ d (iq d j)=iq d j:=by rw[←iq];exact h
  rw[tn hs m (by omega),tn hs d.next.length (by omega)]
 ·have:=Q8 d d.next.length;omega
theorem Q9 {d:cV} (hv:Val d) {s t:Nat} (hs:s<d.next.length) (ht:t<d.next.length):
  (iq d d.next.length).getD s 0=(iq d d.next.length).getD t 0↔ ∀u,Wd d u→ ¬dst d s t u:=by
 constructor
 ·intro h u hu hd
  have h2:(iq d (max u.length d.next.length)).getD s 0=(iq d (max u.length d.next.length)).getD t 0:=by rw[NN hv _ (by omega)];exact h
  rw[pZ hv _ s t hs ht,←Bool.not_eq_true]at h2
  exact h2 ((uD d _ s t).2 ⟨u,hu,by omega,hd⟩)
 ·intro h
  rw[pZ hv _ s t hs ht,←Bool.not_eq_true]
  intro hh
  obtain⟨u,h1,_,h3⟩:=(uD d _ s t).1 hh
  exact h u h1 h3
theorem uE {d:cV} {α:Type} [DecidableEq α] {l:List α} {cs:List Nat} (hl:l.length=d.next.length) (xH:cs=xn l): ∀k,k≤d.next.length→(iZ d cs k).1.length=(dd (l.take k)).length
 |0,_=>by simp[iZ,dd]
 |k+1,hk=>by
  have hk':k<l.length:=by omega
  have ih:=uE hl xH k (by omega)
  have hg:=ap hk'
  have hc:cs.getD k 0=ix l[k] (dd l):=by rw[xH];exact kL (lH hg)
  have hp:dd (l.take k)<+:dd l:=by
   conv=>rhs;rw[←List.take_append_drop k l]
   rw[vx];exact gI _ _
  rw[iZ,ih,hc,aH hk']
  by_cases hm:l[k]∈l.take k
  ·rw[lg hm,ir hp (ku.2 hm),aJ (sr (ku.2 hm)),ih]
  ·have Ax:dd (l.take k)++[l[k]]<+:dd l:=by
    rw[←lh hm,←aH hk']
    conv=>rhs;rw[←List.take_append_drop (k+1) l]
    rw[vx];exact gI _ _
   have e:ix l[k] (dd l)=(dd (l.take k)).length:=by
    rw[ir Ax (by simp),fZ (fun hh=>hm (ku.1 hh))];simp[ix]
   rw[lh hm,e,aA (Nat.lt_irrefl _)]
   simp[ih]
theorem rZ {d:cV} (cs:List Nat): ∀k,∀r∈(iZ d cs k).1,∃s,s<k∧r=(gj cs (d.next.getD s [])).map fun c:Nat=>(c:Int)
 |0,r,h=>by simp[iZ]at h
 |k+1,r,h=>by
  rw[iZ]at h
  split at h
  ·obtain⟨s,hs,e⟩:=rZ cs k r h;exact⟨s,by omega,e⟩
  ·rcases List.mem_append.1 h with h|h
   ·obtain⟨s,hs,e⟩:=rZ cs k r h;exact⟨s,by omega,e⟩
   ·exact⟨k,by omega,List.mem_singleton.1 h⟩
theorem HZ {d:cV} {cs:List Nat} (hl:cs.length=d.next.length) (hc:xn cs=cs):(quo d cs).next.length=(dd cs).length:=by
 show(iZ d cs d.next.length).1.length=_
 rw[uE (l:=cs) hl hc.symm _ (aS _),br (by omega)]
theorem NO {cs:List Nat} (hc:xn cs=cs) {i c:Nat} (h:cs[i]? =some c):c<(dd cs).length:=by
 have h2:=lH h
 rw[hc,h]at h2
 have:=sr (ku.2 (bJ h))
 have e:=db h2
 omega
theorem H0 {d:cV} (hv:Val d) {cs:List Nat} (hl:cs.length=d.next.length) (hc:xn cs=cs):Val (quo d cs):=by
 have hq:=HZ hl hc
 have gw: ∀i,i<d.next.length→cs.getD i 0<(dd cs).length:=fun i hi=>by
  have wI:i<cs.length:=by omega
  have:=ap wI
  rw[kL this];exact NO hc this
 have h1:=(lq d cs d.next.length)
 refine⟨hv.v0,hv.v6,?_,?_,?_,?_,?_,?_⟩
 ·rw[hq];have:=gw 0 hv.n0;omega
 ·exact h1.1.symm
 ·exact Int.natCast_nonneg _
 ·rw[hq]
  show((cs.getD d.start.toNat 0:Nat):Int)<_
  have:=gw d.start.toNat (by have:=hv.s0;have:=hv.s1;omega)
  omega
 ·intro r hr
  obtain⟨s,hs,rfl⟩:=rZ cs _ r hr
  rw[ar,iS]
  simp[hs]
  exact hv.len _ (aN hs)
 ·intro r hr x hx
  rw[hq]
  obtain⟨s,hs,rfl⟩:=rZ cs _ r hr
  obtain⟨c,Xa,rfl⟩:=List.mem_map.1 hx
  refine⟨Int.natCast_nonneg _,?_⟩
  obtain⟨to,uv,rfl⟩:=List.mem_map.1 Xa
  simp[hs]at uv
  have:=hv.ok _ (aN hs) to uv
  have:=gw to.toNat (by omega)
  omega
theorem JR {d:cV} (hv:Valid d) {cs:List Nat} (hl:cs.length=d.next.length) (hc:xn cs=cs):Valid (quo d cs):=
 ⟨H0 hv hl hc,by have:=(lq d cs d.next.length).2;have:=hv.n4;show(iZ d cs d.next.length).1.length≤_;omega⟩
theorem Q_ {d:cV} (hv:Val d) (k:Nat):Val (quo d (iq d k))∧(quo d (iq d k)).next.length≤d.next.length:=
 ⟨H0 hv (fD d k) (p6 d k),(lq d _ _).2⟩
theorem H1 {d:cV} (hv:Valid d) (k:Nat):Valid (quo d (iq d k))∧(quo d (iq d k)).next.length≤d.next.length:=
 ⟨JR hv (fD d k) (p6 d k),(lq d _ _).2⟩
open Go.RowKit
structure kj where
 b:Option Addr
 c:Nat
 xs:List Bool
def kj.val (q:kj):Value:=.slice q.b q.xs.length q.c
def kj.qt (E:TypeId) (q:kj):Item:=av q.b q.c E 1 (cI q.xs)
abbrev iX (qs:List kj):List Value:=qs.map kj.val
abbrev io (E:TypeId) (qs:List kj):List Item:=qs.map (kj.qt E)
theorem NQ {l:List Value} {s n:Nat} {z v:Value} (hl:l.length=s) (hs:s<n):(l++List.replicate (n-s) z).set s v=l++v::List.replicate (n-(s+1)) z:=by
 rw[List.set_append_right _ _ (by omega),hl,fL,show n-s=(n-(s+1))+1 by omega,List.replicate_succ];rfl
theorem mR {n:Nat}: ∀(l ks:List Nat),ks.Nodup→(∀k∈ks,k<n)→(∀k∈l,k<n)→(l.foldl add ks).Nodup∧ ∀k∈l.foldl add ks,k<n
 | [],ks,h1,h2,_=>⟨h1,h2⟩
 |a::l,ks,h1,h2,h3=>mR l (add ks a) (nr h1) (fun k hk=>(rY.1 hk).elim (h2 k) fun e=>e▸h3 a (by simp)) fun k hk=>h3 k (by simp[hk])
theorem Rq {d:cV} (hv:Val d) {o:Nat} (ho:o<d.next.length): ∀t∈nj d o,t<d.next.length:=fun t ht=>by
 obtain⟨x,hx,rfl⟩:=List.mem_map.1 ht
 exact(hv.gT ho (List.mem_range.1 hx)).1
theorem w6 {d:cV} (hv:Val d): ∀i,(dN d i).Nodup∧ ∀o∈dN d i,o<d.next.length
 |0=>by
  refine⟨by simp[dN],fun o ho=>?_⟩
  simp only[dN,da]at ho
  have:=hv.s0;have:=hv.s1;omega
 |i+1=>by
  obtain⟨h1,h2⟩:=w6 hv i
  rw[dN]
  split
  ·rename_i hi
   refine mR _ _ h1 h2 (Rq hv (h2 _ ?_))
   rw[az,ap hi]
   exact aN hi
  ·exact⟨h1,h2⟩
theorem yU {d:cV} (hv:Val d) (i:Nat):(dN d i).length≤d.next.length:=eX (w6 hv i).1 (w6 hv i).2
theorem uX {d:cV} {i o:Nat} (h:(dN d i)[i]? =some o):dN d (i+1)=(nj d o).foldl add (dN d i):=by
 have hi:=(List.getElem?_eq_some_iff.1 h).1
 rw[dN,aJ hi,az,h];rfl
def lr (d:cV) (i o x:Nat):List Nat:=((List.range x).map (eS d o)).foldl add (dN d i)
theorem vJ (d:cV) (i o x:Nat):lr d i o (x+1)=add (lr d i o x) (eS d o x):=jk _ _ _
theorem rC {d:cV} (hv:Val d):(order d).length≤d.next.length:=yU hv _
theorem yT {d:cV} (hv:Val d): ∃N,N≤d.next.length∧(dN d N).length=N∧(∀j,j<N→j<(dN d j).length):=by
 have step: ∀k,(∃N,N≤k∧(dN d N).length=N∧ ∀j,j<N→j<(dN d j).length)∨((∀j,j<k→j<(dN d j).length)∧k≤(dN d k).length):=by
  intro k
  induction k with
  |zero=>exact .inr ⟨fun j hj=>absurd hj (by omega),bl _⟩
  |succ k ih=>
   rcases ih with⟨N,h1,h2⟩|⟨h1,h2⟩
   ·exact .inl ⟨N,by omega,h2⟩
   ·by_cases e:(dN d k).length=k
    ·exact .inl ⟨k,by omega,e,h1⟩
    ·refine .inr ⟨fun j hj=>?_,?_⟩
     ·by_cases ej:j=k
      ·subst ej;omega
      ·exact h1 j (by omega)
     ·have hi:k<(dN d k).length:=by omega
      rw[uX (ap hi)]
      have:=(gI (nj d (dN d k)[k]) (dN d k)).length_le
      omega
 rcases step d.next.length with h|⟨h1,h2⟩
 ·exact h
 ·exact⟨d.next.length,aS _,by have:=yU hv d.next.length;omega,h1⟩
theorem jP (d:cV): ∀(i m:Nat),i≤m→dN d i<+:dN d m:=by
 intro i m h
 induction h with
 |refl=>exact List.prefix_refl _
 | @step m _ ih=>
  refine ih.trans ?_
  rw[dN]
  split
  ·exact gI _ _
  ·exact List.prefix_refl _
theorem uF {d:cV} (hv:Val d): ∀o∈order d,∀t∈nj d o,t∈order d:=by
 obtain⟨N,hN,hl,hj⟩:=yT hv
 have e:=qq hl hN
 intro o ho t ht
 rw[e]at ho⊢
 obtain⟨j,hjo⟩:=List.getElem?_of_mem ho
 have hjl:=(List.getElem?_eq_some_iff.1 hjo).1
 have OX:=hj j (by omega)
 have hp:=jP d j N (by omega)
 have ad5:(dN d j)[j]? =some o:=by
  obtain⟨r,hr⟩:=hp
  rw[←hr,bE OX]at hjo
  exact hjo
 have Ax:=jP d (j+1) N (by omega)
 refine Ax.subset ?_
 rw[uX ad5]
 exact(d_ _ _).2 (.inr ht)
theorem EC (d:cV) (o:Nat):(nj d o).length=2^d.vars.toNat:=by simp[nj]
theorem yR {d:cV} {o x:Nat} (h:x<2^d.vars.toNat):(nj d o)[x]? =some (eS d o x):=by simp[nj,h]
def sC (d:cV) (o:Nat):List Nat:=(nj d o).map fun t=>ix t (order d)
theorem su (d:cV) (o:Nat):(sC d o).length=2^d.vars.toNat:=by simp[sC,nj]
theorem Fp (d:cV):(eo d).next=(order d).map fun o=>(sC d o).map fun x:Nat=>(x:Int):=by
 simp[eo,sC,Function.comp_def]
theorem gn {P:Program} {base:World} {f:FuncId} {args:List Value} {O:List Item} {R:Value→List Item→Prop} (E:TypeId) (k:Nat) (h:cj P base f args O R):cj P base f args O (fun v O'=> ∃O2,O'=av none 0 E k []::O2∧R v O2):=
 fun w M hI=>(h w M hI).mono fun _ _ ⟨v,O',h1,h2,h3⟩=>⟨v,_,h1,h2.fq E k,O',F,h3⟩
theorem Bg {P:Program} {base:World} {f:FuncId} {args:List Value} {R:Value→List Item→Prop} (h:cj P base f args [] R):cj P base f args [] (fun v O'=>O'=[]∧ ∃O2,R v O2):=
 fun w M hI=>(h w M hI).mono fun _ _ ⟨v,O',h1,h2,h3⟩=>⟨v,[],h1,by simpa using h2.kN (ck (List.sublist_append_right O' M)),F,O',h3⟩
theorem Pq {α:Type} {p:α→Prop} {a:α} {l:List α} (h1:p a) (h2: ∀q∈l,p q): ∀q∈a::l,p q:=fun q h=>by
 rcases List.mem_cons.1 h with rfl|h
 ·exact h1
 ·exact h2 q h
def jm (d:cV):cV:=eo (quo d (iq d d.next.length))
def CA (d:cV):cV:=if dL d=0 then jm d else⟨0,0,[],[]⟩
open Go.RowKit Go.Sort
def R_:List Int:=Lib.deBruijn64tab.map fun n:Nat=>(n:Int)
class dA (P:Program) (base:World):Prop where
 tab: ∀w,Below base.heap.size base w→Lib.TabIs P w "internal/strconv.uint64pow10" .u64 Lib.pow10Tab
 tz:P.globalNamed "math/bits.deBruijn64tab" =none∨ ∀w,Below base.heap.size base w→Lib.TabIs P w "math/bits.deBruijn64tab" .u8 R_
theorem dA.of {P:Program} {w:World} (h:Lib.TabIs P w "internal/strconv.uint64pow10" .u64 Lib.pow10Tab) (h2:P.globalNamed "math/bits.deBruijn64tab" =none∨Lib.TabIs P w "math/bits.deBruijn64tab" .u8 R_):dA P w:=⟨fun w' hb=>Lib.tabBelow_of_tabIs h w' hb,h2.imp id fun h w' hb=>Lib.tabBelow_of_tabIs h w' hb⟩
theorem dA.is {P:Program} {w:World} (h:dA P w):Lib.TabIs P w "internal/strconv.uint64pow10" .u64 Lib.pow10Tab:=h.tab w (Below.refl _ _)
theorem Inv.tab {P:Program} {base:World} {O:List Item} {w:World} (hI:Inv base O w) [t:dA P base]:dA P w:=.of (t.tab w hI.below) (t.tz.imp id fun h=>h w hI.below)
theorem Inv.grow {base:World} {O:List Item} {w:World} (h:Inv base O w) (k:Nat) (os:Array Obj):Inv base O (Go.Sort.grow (w.drewN k) os):=by
 refine Inv.new (N:=[]) h F F F ?_ ?_ (by simp) (by simp) (by simp)
 ·show w.heap.size≤(w.heap++os).size
  simp
 ·intro b hb
  show(w.heap++os)[b]? =w.heap[b]?
  rw[Array.getElem?_append_left hb]
theorem cj.drop {P:Program} {base:World} {f:FuncId} {args:List Value} {O:List Item} {R R':Value→List Item→Prop} (h:cj P base f args O R) (hr: ∀v O',R v O'→ ∃zn,Sub zn O'∧R' v zn):cj P base f args O R':=
 fun w M hI=>(h w M hI).mono fun _ _ ⟨v,O',h1,h2,h3⟩=>let⟨zn,hs,h4⟩:=hr v O' h3;⟨v,zn,h1,h2.kN hs.sJ,h4⟩
theorem oD {P:Program} {W:World} {x:String×DataW Unit} {rest:List (String×DataW Unit)} {ps:List MemPlace} (h:DataW.LaidVars P W (x::rest) ps): ∃q,DataW.LaidVars P W rest q:=by
 obtain⟨g',t',cs,gv,p,q,hg',OV,X6,hd,hr,_⟩:=h
 exact⟨q,hr⟩
theorem sk {P:Program} {W:World} {name:String} {k:IntKind} {zs:List Int} {D:DataW Unit} {rest:List (String×DataW Unit)} {ps:List MemPlace} {g:Nat} {t e:TypeId} {n:Nat} (hD:D=Lib.tabData k zs)
  (hg:P.globalNamed name=some g) (hty:(P.globals[g]?).map (·.type)=some t) (ht:P.underlying t=some (.array n e)) (he:P.underlying e=some (.int k)) (hce:P.cellsOf e=1) (hct:P.cellsOf t=n)
  (h:DataW.LaidVars P W ((name,D)::rest) ps):Lib.TabIs P W name k zs:=by
 subst hD
 obtain⟨g',t',cs,gv,p,q,hg',OV,X6,hd,_,_⟩:=h
 obtain rfl:=db (hg.symm.trans hg')
 obtain rfl:=db (hty.symm.trans OV)
 unfold Lib.TabIs
 rw[X6,←Lib.cells_of_tab ht he hce hct hd]
def acs (n:Nat) (cs:Array Value):Prop:= ∀j (h:j<(dn (Lib.decDigits n)).length),cs[j]? =some (dn (Lib.decDigits n))[j]
theorem PL {P:Program} {f:FuncId} {base:World} {b T n:Nat} {Z:Array Value} (hZ: ∀j,j<24→Z[j]? =some (.int .u8 0)) (X7:1≤n) (hn:n<1000000000000)
  (hc: ∀(lU off cap u:Nat) (d:Array UInt8) (w:World),Holds (fun(b:UInt8)=>Value.int .u8 (b.toNat:Int)) w lU off d→u<10^d.size→u<18446744073709551616→d.size<4611686018427387904→
   Calls P f #[.slice (some ⟨lU,off,none⟩) d.size cap,.int .u64 u] w fun e w'=>e=.returned (.tuple #[])∧ ∃(n v':Nat) (dk:Array UInt8),w'=(putRow (fun(b:UInt8)=>Value.int .u8 (b.toNat:Int)) w lU off dk).drewN n∧Lib.FmtInv d.size u 0 v' dk):
  cj P base f [.slice (some ⟨b,0,none⟩) (Lib.nDigits n) 24,.int .u64 (n:Int)] [dY b (.cells Z T (0,0))] (fun v O'=>v=.tuple #[]∧ ∃cs,O'=[dY b (.cells cs T (0,0))]∧acs n cs):=by
 intro w M hI
 have hb:w.heap[b]? =some (.cells Z T (0,0)):=hI.holds _ (List.mem_cons_self ..)
 have lZ:Lib.nDigits n≤20:=by have:=Lib.numDigits_eq n X7 (by omega);split at this<;>omega
 have hH:Holds (fun(b:UInt8)=>Value.int .u8 (b.toNat:Int)) w b 0 (Array.replicate (Lib.nDigits n) 0):=fun j hj=>by
  have An:j<Lib.nDigits n:=by simpa using hj
  refine⟨?_,?_⟩
  ·rw[getElem!_pos _ j hj]
   simp[World.cell?,hb,hZ j (by omega)]
  ·simp[World.frozen?,hb]
 have:=hc b 0 24 n (Array.replicate (Lib.nDigits n) 0) w hH (by rw[Array.size_replicate];exact Lib.lt_pow_nDigits n) (by omega) (by rw[Array.size_replicate];omega)
 rw[Array.size_replicate]at this
 refine this.mono ?_
 rintro e w' ⟨rfl,k,v',dk,rfl,hF⟩
 obtain⟨D,hD⟩: ∃D,D=putCells (fun(b:UInt8)=>Value.int .u8 (b.toNat:Int)) 0 dk Z:=⟨_,F⟩
 have G8:(putRow (fun(b:UInt8)=>Value.int .u8 (b.toNat:Int)) w b 0 dk).heap[b]? =some (.cells D T (0,0)):=by
  show(w.heap.modify b _)[b]? =_
  rw[Array.getElem?_modify,aJ F,hb,hD];rfl
 have ho: ∀x,x≠b→(putRow (fun(b:UInt8)=>Value.int .u8 (b.toNat:Int)) w b 0 dk).heap[x]? =w.heap[x]? :=fun x hx=>by
  show(w.heap.modify b _)[x]? =_
  rw[Array.getElem?_modify,aA (fun e=>hx e.symm)]
 have h1: ∀j,j<dk.size→(putRow (fun(b:UInt8)=>Value.int .u8 (b.toNat:Int)) w b 0 dk).cell? ⟨b,0+j,none⟩=some (.int .u8 (dk[j]!.toNat:Int)):=fun j hj=>cell?_putRow _ w b 0 _ dk hH (by rw[hF.size,Array.size_replicate]) j hj
 have hs:(putRow (fun(b:UInt8)=>Value.int .u8 (b.toNat:Int)) w b 0 dk).heap.size=w.heap.size:=by simp
 have e1:(putRow (fun(b:UInt8)=>Value.int .u8 (b.toNat:Int)) w b 0 dk).os=w.os:=rfl
 have e2:(putRow (fun(b:UInt8)=>Value.int .u8 (b.toNat:Int)) w b 0 dk).tape=w.tape:=rfl
 have e3:(putRow (fun(b:UInt8)=>Value.int .u8 (b.toNat:Int)) w b 0 dk).output=w.output:=rfl
 generalize putRow (fun(b:UInt8)=>Value.int .u8 (b.toNat:Int)) w b 0 dk=w1 at*
 have X2:Inv base ([dY b (.cells D T (0,0))]++M) w1:=by
  refine hI.sE (i:=0) (it:=dY b (.cells Z T (0,0))) (TJ:=dY b (.cells D T (0,0))) F e1 e2 e3 (by omega) ?_ G8 (fun x hx=>.inl hx) (by simp[dY])
  intro x hx pL
  exact ho x (fun e=>pL (by simp[dY,e]))
 refine⟨_,[dY b (.cells D T (0,0))],F,X2.same F F F F,F,D,F,?_⟩
 ·intro j hj
  have An:j<(Lib.decDigits n).length:=by simpa[dn]using hj
  have sP:j<dk.size:=by rw[hF.size];rwa[Lib.decDigits_length]at An
  have h3:D[j]? =some (.int .u8 (dk[j]!.toNat:Int)):=by have:=h1 j sP;simpa[World.cell?,G8]using this
  rw[h3,←Lib.row_is_numeral hF j An]
  simp[dn]
section
variable {P:Program} {r:Option Nat} {base:World} {n:Nat} {ρ:Env} {O:List Item} {dst:Option Nat} {d:Nat} {t:TypeId} {p:String} {af:Array Edge} {g:Option (Nat×Bool)} {K:Env→List Item→Prop}
theorem CZ {T E:TypeId} {x y:Operand} {b m h gQ:Nat} {z:Value} (hu:P.underlying T=some (.array m E)) (hi:fT P E z 1 gQ) (hx:ev ρ x=.pointer (some ⟨b,0,none⟩)) (hy:ev ρ y=.int .i64 (h:Int)) (hh:h≤m) (h0:1≤h):
  QT P base ⟨dst,.slice T x none (some y) none,t,p,af,g⟩ ρ O (.slice (some ⟨b,0,none⟩) h m):=fun w hI=>by
 have e1:(h:Int)≤(m:Int):=by omega
 have e2:(0:Int)≤(h:Int):=by omega
 simp[execOp,Instr.sliceAt,Instr.sureAddr,hx,hy,bw hu,cd hi,Instr.sliceBounds,Instr.sliceBound,asIntOf,e1,e2,rF,hh]
theorem I8 {T U E A:TypeId} {b:Option Addr} {m c l ca k gQ:Nat} {x y:Operand} {z:Value} {cs new:List Value} {arr:Array Value} (i j:Nat)
  (hu:P.underlying T=some (.slice E)) (PF:P.underlying U=some (.slice E)) (hi:fT P E z 1 gQ) (hz:z.cells.size=1)
  (hx:ev ρ x=.slice b m c) (hy:ev ρ y=.slice (some ⟨k,0,none⟩) l ca) (hO:O[j]? =some (av b c E 1 cs)) (hl:cs.length=m) (hs:new.length=l)
  (hA:O[i]? =some (dY k (.cells arr A (0,0)))) (hn': ∀q (h:q<new.length),arr[q]? =some new[q]) (wL:(new.all fF)=true)
  (rD:(m+l)*gQ≤70368744177664) (R4:gQ≤1000000) (I2:0<gQ)
  (h: ∀b' c',K (pE ρ d (.slice b' (m+l) c')) (O.set j (av b' c' E 1 (cs++new)))) (hn:Nat.blt d n=true:=by rfl):
  LT P r base n ⟨some d,.call ⟨.builtin .append,#[x,y],#[T,U]⟩,t,p,af,g⟩ ρ O K:=
 jq hn fun w M hI=>by
  have T1:Src P base (O++M) 1 l (.slice (some ⟨k,0,none⟩) l ca) new:=⟨by omega,fun w=>by simp[Builtin.lenOf],fun w hI=>jf (fun q hq=>⟨⟨k,0,none⟩,F,F,by
   have hb:w.heap[k]? =some (.cells arr A (0,0)):=hI.holds _ (bJ (nC hA))
   simp[World.cell?,hb,hn' q hq]⟩) (by omega) (fun e=>by cases e)⟩
  obtain⟨b',c',w',hr,oH⟩:=sM (ty:=t) hu PF (.inl ⟨_,F⟩) hi hz (nC hO) (by simpa using hl) (by decide) T1 wL rD R4 I2 hI
  rw[pI hO]at oH
  refine⟨_,w',_,?_,oH,h b' c'⟩
  simp[execOp,resolve,hx,hy,invoke,builtin,hr]
end
section
variable {P:Program} {r:Option Nat} {base:World} {n:Nat} {ρ:Env} {O:List Item} {K':Env→List Item→Prop} {d:Nat} {t:TypeId} {p:String} {af:Array Edge} {g:Option (Nat×Bool)}
end
section
variable {P:Program} {base:World} {ρ:Env} {O:List Item} {dst:Option Nat} {t:TypeId} {p:String} {af:Array Edge} {g:Option (Nat×Bool)}
theorem og {x:Nat} (h:x<2^64):IntKind.u64.wrap (x:Int)=(x:Int):=by
 simp only[IntKind.wrap,IntKind.signed,IntKind.bits]
 simp
 omega
inductive UK:IntKind→Prop
 |u8:UK .u8
 |u64:UK .u64
theorem UK.wrap {k:IntKind} (hk:UK k) {x:Nat} (h:x<2^k.bits):k.wrap (x:Int)=(x:Int):=by
 cases hk
 ·exact qF (by simpa[IntKind.bits]using h)
 ·exact og (by simpa[IntKind.bits]using h)
theorem T5 {x y:Operand} {T U:TypeId} {k:IntKind} {a b:Nat} (hk:UK k) (hx:ev ρ x=.int k (a:Int)) (hy:ev ρ y=.int k (b:Int)) (ha:a<2^k.bits) (hb:b<2^k.bits):QT P base ⟨dst,.binOp .or T x y U,t,p,af,g⟩ ρ O (.int k ((a|||b:Nat):Int)):=fun w _=>by
 have:=hk.wrap (Nat.or_lt_two_pow ha hb)
 simp[execOp,hx,hy,eqGuard,binOp,Op.intBits,Nat.mod_eq_of_lt ha,Nat.mod_eq_of_lt hb,this]
theorem G5 {x y:Operand} {T U:TypeId} {k:IntKind} {a b:Nat} (hk:UK k) (hx:ev ρ x=.int k (a:Int)) (hy:ev ρ y=.int k (b:Int)) (ha:a<2^k.bits) (hb:b<2^k.bits):QT P base ⟨dst,.binOp .and T x y U,t,p,af,g⟩ ρ O (.int k ((a&&&b:Nat):Int)):=fun w _=>by
 have:=hk.wrap (jW (Nat.and_le_left (n:=a) (m:=b)) ha)
 simp[execOp,hx,hy,eqGuard,binOp,Op.intBits,Nat.mod_eq_of_lt ha,Nat.mod_eq_of_lt hb,this]
theorem T6 {x y:Operand} {T U:TypeId} {k k':IntKind} {a b:Nat} (hk:UK k) (hx:ev ρ x=.int k (a:Int)) (hy:ev ρ y=.int k' (b:Int)) (hb:b≤k.bits) (h:a*2^b<2^k.bits):QT P base ⟨dst,.binOp .shl T x y U,t,p,af,g⟩ ρ O (.int k ((a*2^b:Nat):Int)):=fun w _=>by
 have h0: ¬(b:Int)<0:=by omega
 have h1:min (b:Int).toNat k.bits=b:=by rw[Int.toNat_natCast];exact Nat.min_eq_left hb
 have h2:k.wrap ((a:Int)*2^b)=((a*2^b:Nat):Int):=by
  have:=hk.wrap h
  rw[←this];congr 1
 simp only[execOp,hx,hy,eqGuard,binOp,Op.shift,h0,if_false,h1,h2]
 simp
theorem Ll {x y:Operand} {T U:TypeId} {k:IntKind} {a b:Nat} (hk:UK k) (hx:ev ρ x=.int k (a:Int)) (hy:ev ρ y=.int k (b:Int)) (ha:a<2^k.bits) (hb:b≤a):QT P base ⟨dst,.binOp .sub T x y U,t,p,af,g⟩ ρ O (.int k ((a-b:Nat):Int)):=by
 have h:=R6 (P:=P) (base:=base) (O:=O) (dst:=dst) (t:=t) (p:=p) (af:=af) (g:=g) (T:=T) (U:=U) hx hy
 rw[←Int.natCast_sub hb,hk.wrap (by omega)]at h
 exact h
theorem dr {x y:Operand} {T U:TypeId} {a b:Nat} (hx:ev ρ x=.int .i64 (a:Int)) (hy:ev ρ y=.int .i64 (b:Int)) (h:a+b≤9223372036854775807):QT P base ⟨dst,.binOp .add T x y U,t,p,af,g⟩ ρ O (.int .i64 ((a+b:Nat):Int)):=by
 have:=jx (P:=P) (base:=base) (O:=O) (dst:=dst) (t:=t) (p:=p) (af:=af) (g:=g) (T:=T) (U:=U) hx hy (by omega)
 rwa[←Int.natCast_add]at this
theorem sO {x y:Operand} {T U:TypeId} {a b:Nat} (hx:ev ρ x=.int .i64 (a:Int)) (hy:ev ρ y=.int .i64 (b:Int)) (h:b≤a) (ha:a≤9223372036854775807):QT P base ⟨dst,.binOp .sub T x y U,t,p,af,g⟩ ρ O (.int .i64 ((a-b:Nat):Int)):=by
 have:=fI (P:=P) (base:=base) (O:=O) (dst:=dst) (t:=t) (p:=p) (af:=af) (g:=g) (T:=T) (U:=U) hx hy (by omega)
 rwa[←Int.natCast_sub h]at this
def CX (b:Option Addr) (c lo k:Nat):Option Addr:=if c=lo then b else b.map (·.add (lo*k))
theorem I6 (b:Option Addr) (c k:Nat):CX b c 0 k=b:=by
 unfold CX
 split
 ·rfl
 ·rw[Nat.zero_mul];cases b with
  |none=>rfl
  |some a=>simp[Addr.add]
theorem G6 {x:Operand} {T E:TypeId} {b:Option Addr} {n c k gQ lo hi:Nat} {z:Value} {yl yh:Option Operand} {kl kh:IntKind} (hu:P.underlying T=some (.slice E)) (wI:fT P E z k gQ) (hx:ev ρ x=.slice b n c)
  (hl: ∀y,yl=some y→ev ρ y=.int kl (lo:Int)) (I3:yl=none→lo=0) (hh: ∀y,yh=some y→ev ρ y=.int kh (hi:Int)) (hh0:yh=none→hi=n) (h1:lo≤hi) (h2:hi≤c):
  QT P base ⟨dst,.slice T x yl yh none,t,p,af,g⟩ ρ O (.slice (CX b c lo k) (hi-lo) (c-lo)):=fun w _=>by
 have e1:(lo:Int)≤(hi:Int):=by omega
 have e2:(hi:Int)≤(c:Int):=by omega
 have e0:(0:Int)≤(lo:Int):=by omega
 have e3:(0:Int)≤(hi:Int):=by omega
 unfold CX
 have ed:c-lo=0↔c=lo:=by omega
 cases yl with
 |none=>
  obtain rfl:=I3 F
  cases yh with
  |none=>
   obtain rfl:=hh0 F
   by_cases Ah:c=0
   ·simp[execOp,Instr.sliceAt,Instr.slice,hx,bw hu,cd wI,Instr.sliceBounds,Ah]
   ·simp[execOp,Instr.sliceAt,Instr.slice,hx,bw hu,cd wI,Instr.sliceBounds,Ah]
  |some y=>
   have:=hh y F
   by_cases Ah:c=0
   ·simp[execOp,Instr.sliceAt,Instr.slice,hx,this,bw hu,cd wI,Instr.sliceBounds,Instr.sliceBound,asIntOf,e2,e3,Ah,h2]
    omega
   ·simp[execOp,Instr.sliceAt,Instr.slice,hx,this,bw hu,cd wI,Instr.sliceBounds,Instr.sliceBound,asIntOf,e2,e3,Ah,h2]
 |some y'=>
  have hl':=hl y' F
  cases yh with
  |none=>
   obtain rfl:=hh0 F
   by_cases Ah:c=lo
   ·simp[execOp,Instr.sliceAt,Instr.slice,hx,hl',bw hu,cd wI,Instr.sliceBounds,Instr.sliceBound,asIntOf,e1,e0,Ah,h1]
   ·simp[execOp,Instr.sliceAt,Instr.slice,hx,hl',bw hu,cd wI,Instr.sliceBounds,Instr.sliceBound,asIntOf,e1,e0,Ah,h1]
  |some y=>
   have:=hh y F
   by_cases Ah:c=lo
   ·simp[execOp,Instr.sliceAt,Instr.slice,hx,hl',this,bw hu,cd wI,Instr.sliceBounds,Instr.sliceBound,asIntOf,e1,e0,e2,e3,Ah,h1,h2]
    intro;omega
   ·simp[execOp,Instr.sliceAt,Instr.slice,hx,hl',this,bw hu,cd wI,Instr.sliceBounds,Instr.sliceBound,asIntOf,e1,e0,e2,e3,Ah,h1,h2]
theorem I7 {x y:Operand} {T E:TypeId} {b:Option Addr} {n c k gQ hi:Nat} {z:Value} {kh:IntKind} (hu:P.underlying T=some (.slice E)) (wI:fT P E z k gQ) (hx:ev ρ x=.slice b n c) (hh:ev ρ y=.int kh (hi:Int)) (h2:hi≤c):
  QT P base ⟨dst,.slice T x none (some y) none,t,p,af,g⟩ ρ O (.slice b hi c):=by
 have:=G6 (P:=P) (base:=base) (O:=O) (dst:=dst) (t:=t) (p:=p) (af:=af) (g:=g) (lo:=0) (kl:=.i64) hu wI hx (yl:=none) (yh:=some y) (fun _ h=>by cases h) (fun _=>rfl) (fun _ h=>by cases h;exact hh) (fun h=>by cases h) (bl _) h2
 rwa[I6,Nat.sub_zero,Nat.sub_zero]at this
theorem CY {x y:Operand} {T E:TypeId} {b:Option Addr} {n c k gQ lo:Nat} {z:Value} {kl:IntKind} (hu:P.underlying T=some (.slice E)) (wI:fT P E z k gQ) (hx:ev ρ x=.slice b n c) (hh:ev ρ y=.int kl (lo:Int)) (h1:lo≤n) (h2:n≤c):
  QT P base ⟨dst,.slice T x (some y) none none,t,p,af,g⟩ ρ O (.slice (CX b c lo k) (n-lo) (c-lo)):=
 G6 (kh:=.i64) hu wI hx (fun _ h=>by cases h;exact hh) (fun h=>by cases h) (fun _ h=>by cases h) (fun _=>rfl) h1 h2
end
section
variable {P:Program} {r:Option Nat} {base:World} {n:Nat} {ρ:Env} {O:List Item} {K:Env→List Item→Prop} {d:Nat} {t:TypeId} {p:String} {af:Array Edge} {g:Option (Nat×Bool)}
end
theorem dZ {P:Program} {r:Option Nat} {base:World} {n:Nat} {Q:ll} {ρ:Env} {O:List Item} {c:Code} {α:Type} (I:α→Env→List Item→Prop) (μ:α→Nat) (s:α) (h0:I s ρ O)
  (h: ∀s ρ O,I s ρ O→T P r base n c (K6 (fun gX O'=> ∃s',μ s'<μ s∧ ∃O2,Sub O2 O'∧I s' gX O2) Q) ρ O):T P r base n (.loop c) Q ρ O:=
 ek (fun s ρ O=> ∃O2,Sub O2 O∧I s ρ O2) μ s ⟨O,ck (aY _),h0⟩ (fun s ρ O ⟨O2,hs,hi⟩=>dc hs (h s ρ O2 hi))
theorem Bs {P:Program} {T E:TypeId} {d:TypeDesc} {b:Nat} {v:Value} {cs:List Value} {fr:Nat×Nat} {w:World} (hu:P.underlying T=some d) (ha:pH d=false) (hw:w.heap[b]? =some (.cells (v::cs).toArray E fr)):
  (loadVar T ⟨b,0,none⟩).run P w=.ok v w:=by
 have hc:w.cell? ⟨b,0,none⟩=some v:=by unfold World.cell?;simp[hw]
 simp[loadVar,jw hu,ha,hc]
section
variable {P:Program} {base:World} {ρ:Env} {O:List Item} {dst:Option Nat} {t:TypeId} {p:String} {af:Array Edge} {g:Option (Nat×Bool)}
end
section
variable {P:Program} {r:Option Nat} {base:World} {n:Nat} {ρ:Env} {O:List Item} {K:Env→List Item→Prop} {d:Nat} {t:TypeId} {p:String} {af:Array Edge} {g:Option (Nat×Bool)}
end
theorem G7 {P:Program} {base:World} {ρ:Env} {O:List Item} {dst:Option Nat} {t:TypeId} {p:String} {af:Array Edge} {g:Option (Nat×Bool)} {x:Operand} {S:TypeId} {fs:Array Field} {i:Nat} {f:Field} {cs:List Value} {d:TypeDesc} {v:Value} (hu:P.underlying S=some (.struct fs)) (hf:fs[i]? =some f) (hd:P.underlying f.type=some d) (ha:pH d=false) (hx:ev ρ x=.agg cs.toArray) (hv:cs[f.offset]? =some v):
  QT P base ⟨dst,.field S x i,t,p,af,g⟩ ρ O v:=fun w _=>by
 simp[execOp,hx,Instr.field,bw hu,hf,part,jw hd,ha,asAgg,hv]
section
variable {X:PX} {P:Program} {r:Option Nat} {base:World} {n:Nat} {ops:Array Oper} {S S2:List Item} {tail dw:List Nat} {K:Env→List Item→Prop} {ρ:Env} {O:List Item}
theorem FA {gv:Nat} {listed:Array Bool} (i:Nat) {o:Oper} {j0 tj:Nat} {want:Bool} (hi:ops[i]? =some o) (hg:o.guard=some (j0,want)) (T7:(ops[j0]?).bind (·.dst)=some tj) (hw:ρ tj=.bool want) (hr:Region.ready .any ops listed=[i])
  (h:LT P r base n o ρ O (fun gX O'=>(i∈tail∨Sub S O')∧(i∈dw∨Sub S2 O')∧RO X P r base n ops S tail S2 dw gv (listed.setIfInBounds i true) K gX O')):RO X P r base n ops S tail S2 dw (gv+1) listed K ρ O:=by
 intro Q a w M D hq hp ha hI oO hS
 refine⟨fun h0=>(by rw[hr]at h0;cases h0),fun j hj=>?_⟩
 rw[hr]at hj
 obtain rfl:j=i:=by simpa using hj
 have An:j∈Region.ready .any ops listed:=by rw[hr];simp
 have gw:j<listed.size:=by
  have:=(mem_ready.1 An).1
  rcases Nat.lt_or_ge j listed.size with h'|h'
  ·exact h'
  ·simp[Array.getElem?_eq_none h']at this
 have hy:=jQ (ops:=ops) ha T7
 rw[hw]at hy
 have qu:Region.wanted o (yielded ops a.tmps)=true:=by unfold Region.wanted;rw[hg];simp[hy,OT]
 unfold wpOpIn
 simp only[hi]
 rw[aJ qu]
 refine h a w _ _ ha hI _ _ fun a' gX O' w' h1 h2 h3=>?_
 have si: ∀(tl:List Nat) (Z:List Item),(j∈tl∨Sub Z O')→(tl.any fun b=>(listed.setIfInBounds j true).getD b false)=true∨Inv base Z w':=fun tl Z h3=>by
  rcases h3 with h4|h4
  ·refine .inl (List.any_eq_true.2 ⟨j,h4,?_⟩)
   simp[gw]
  ·exact .inr (h2.left.kN h4)
 have qw:je base S tail S2 dw (listed.setIfInBounds j true) w':=⟨h2.lK,si _ _ h3.1,si _ _ h3.2.1⟩
 exact⟨qw,h3.2.2 Q a' w' M D hq hp h1 h2 (jp oO An) qw⟩
theorem pK {l:List (Nat×Nat)} {i:Nat} {o:Oper} {j0 tj:Nat} {want:Bool} (hi:ops[i]? =some o) (hg:o.guard=some (j0,want)) (T7:(ops[j0]?).bind (·.dst)=some tj) (hw:ρ tj=.bool want)
  (h:LT P r base n o ρ O (fun gX O'=>DO X P r base n ops S tail S2 dw l K gX O')):DO X P r base n ops S tail S2 dw ((i,2)::l) K ρ O:=fun hs lZ hl listed hb=>by
 simp only[jS,ay,beq_iff_eq]at hb
 refine FA i hi hg T7 hw hb.1 ?_
 intro a w M ds ha hI next Qx fy
 exact h a w M ds ha hI next Qx fun a' gX O' w' h1 h2 h3=>fy a' gX O' w' h1 h2 ⟨.inl ((hl (i,2) (by simp)).1.1 F),.inl ((hl (i,2) (by simp)).2.1 (.inl F)),h3 hs lZ (fun q hq=>hl q (List.mem_cons_of_mem _ hq)) _ hb.2⟩
end
section
variable {X:PX} {P:Program} {r:Option Nat} {base:World} {n:Nat} {ops:Array Oper} {S S2:List Item} {tail dw:List Nat} {K:Env→List Item→Prop} {ρ:Env} {O:List Item}
theorem Bt {gv:Nat} {listed:Array Bool} (i:Nat) {o:Oper} {d j0 tj:Nat} {want:Bool} (hi:ops[i]? =some o) (hg:o.guard=some (j0,want)) (hd:o.dst=some d) (T7:(ops[j0]?).bind (·.dst)=some tj) (hw:(OT (ρ tj)==some want)=false) (hn:Nat.blt d n=true) (hr:Region.ready .any ops listed=[i])
  (h:RO X P r base n ops S tail S2 dw gv (listed.setIfInBounds i true) K (pE ρ d undef) O):RO X P r base n ops S tail S2 dw (gv+1) listed K ρ O:=by
 intro Q a w M D hq hp ha hI oO hS
 refine⟨fun h0=>(by rw[hr]at h0;cases h0),fun j hj=>?_⟩
 rw[hr]at hj
 obtain rfl:j=i:=by simpa using hj
 have An:j∈Region.ready .any ops listed:=by rw[hr];simp
 have hy:=jQ (ops:=ops) ha T7
 have qu:Region.wanted o (yielded ops a.tmps)=false:=by unfold Region.wanted;rw[hg];simp only[hy];exact hw
 unfold wpOpIn
 simp only[hi]
 rw[aA (by rw[qu];decide)]
 have qw:je base S tail S2 dw (listed.setIfInBounds j true) w:=⟨hS.lK,hS.one.imp Bq id,hS.two.imp Bq id⟩
 refine⟨fun _ _=>trivial,qw,?_⟩
 rw[hd]
 exact h Q _ w M D hq hp (ha.put hn undef) hI (jp oO An) qw
theorem tR {l:List (Nat×Nat)} {i mo:Nat} {o:Oper} {d j0 tj:Nat} {want:Bool} (hmo:mo=1∨mo=2) (hi:ops[i]? =some o) (hg:o.guard=some (j0,want)) (hd:o.dst=some d) (T7:(ops[j0]?).bind (·.dst)=some tj) (hw:(OT (ρ tj)==some want)=false)
  (h:DO X P r base n ops S tail S2 dw l K (pE ρ d undef) O) (hn:Nat.blt d n=true:=by rfl):DO X P r base n ops S tail S2 dw ((i,mo)::l) K ρ O:=fun hs lZ hl listed hb=>by
 have zm:(Region.ready .any ops listed== [i])=true∧jS ops tail dw l (listed.setIfInBounds i true)=true:=by
  rcases hmo with rfl|rfl<;>simpa only[jS,ay]using hb
 exact Bt i hi hg hd T7 hw hn (by simpa using zm.1) (h hs lZ (fun q hq=>hl q (List.mem_cons_of_mem _ hq)) _ zm.2)
end
theorem Sub.k {A B:List Item} {a:Item} (h:Sub A B):Sub (a::A) (a::B):=by
 obtain⟨l,h1,h2⟩:=h;exact⟨a::l,h1.cons a,.cons_cons a h2⟩
theorem Sub.d {A B:List Item} {a:Item} (h:Sub A B):Sub A (a::B):=by
 obtain⟨l,h1,h2⟩:=h;exact⟨l,h1,.cons a h2⟩
theorem Sub.z {B:List Item}:Sub [] B:=ck (cr _)
theorem Sub.rf {B:List Item}:Sub B B:=ck (aY _)
theorem gy (A B S:List Item):Sub ((A++B)++S) ((A++S)++B):=by
 refine⟨(A++S)++B,?_,aY _⟩
 rw[a6,a6]
 exact List.Perm.append_left A List.perm_append_comm
theorem fK (A B S R:List Item):Sub ((A++B)++(S++R)) ((A++S)++(B++R)):=by
 refine⟨(A++S)++(B++R),?_,aY _⟩
 have h:(B++(S++R)).Perm (S++(B++R)):=by
  rw[←a6,←a6]
  exact List.perm_append_comm.append_right R
 rw[a6,a6]
 exact List.Perm.append_left A h
theorem Lm {l B:List Item} (h:l.Sublist B): ∃D,(l++D).Perm B:=by
 induction h with
 |slnil=>exact⟨[],List.Perm.refl _⟩
 |cons a _ ih=>obtain⟨D,hD⟩:=ih;exact⟨a::D,List.perm_middle.trans (hD.cons a)⟩
 |cons_cons a _ ih=>obtain⟨D,hD⟩:=ih;exact⟨D,hD.cons a⟩
theorem Sub.perm {A B:List Item} (h:Sub A B): ∃D,(A++D).Perm B:=by
 obtain⟨l,p,s⟩:=h
 obtain⟨D,hD⟩:=Lm s
 exact⟨D,(p.append_right D).trans hD⟩
theorem Sub.dP {xs:List Item} {x:Item} (P Q:List Item) (h:Sub xs (P++Q)):Sub (x::xs) (P++x::Q):=by
 obtain⟨D,p⟩:=h.perm
 refine oC (D:=D) ?_
 exact(p.cons x).trans List.perm_middle.symm
example (a b c d e:Item) (R:List Item):Sub ([c,a,e]++R) ([a,b,c,d,e]++R):=by exact Sub.dP [a,b] _ (.k (.d (.d (.k .rf))))
theorem nH {A B:List Item} (N:List Item) (h:Sub A B):Sub A (N++B):=by
 obtain⟨l,hp,hs⟩:=h
 exact⟨l,hp,hs.trans (List.sublist_append_right _ _)⟩
theorem iN {P:Program} {base:World} {ρ:Env} {O:List Item} {fn:Func} {R:Value→List Item→Prop} {a i c j:Nat} {T U E E':TypeId} {d d':TypeDesc} {z u:Value} {s gQ b b':Nat} {cs Bn:List Value} {fr fr':Nat×Nat} (hr:fn.results= #[.cell a T,.cell c U]) (hu:P.underlying T=some d) (ha:pH d=true) (hi:fT P T z s gQ) (KN:P.underlying U=some d') (FB:pH d'=false)
  (hp:ρ a=.pointer (some ⟨b,0,none⟩)) (Xd:ρ c=.pointer (some ⟨b',0,none⟩)) (hO:O[i]? =some (dY b (.cells cs.toArray E fr))) (hO':O[j]? =some (dY b' (.cells (u::Bn).toArray E' fr'))) (hl:cs.length=s)
  (h:R (.tuple #[.agg cs.toArray,u]) O):rG P base fn ρ O R:=
 ⟨⟨_,O,ck (aY _),h,fun w tmps hI ht=>by
  have h1:=qz (P:=P) hu ha hi hl (hI.vX hO)
  have h2:=Bs (P:=P) KN FB (hI.vX hO')
  have ht1:=ht a
  have Xe:=ht c
  simp only[dv]at ht1 Xe
  simp[results,hr,ht1,Xe,hp,Xd,asAddr,h1,h2]⟩⟩
theorem a_ {P:Program} {base:World} {ρ:Env} {O:List Item} {dst:Option Nat} {t:TypeId} {p:String} {af:Array Edge} {g:Option (Nat×Bool)} {x:Operand} {a:Addr} (h:ev ρ x=.pointer (some a):=by exact F):QT P base ⟨dst,.nilCheck x,t,p,af,g⟩ ρ O (.pointer (some a)):=fun w _=>by simp[execOp,h]
section
variable {P:Program} {base:World} {ρ:Env} {O:List Item} {dst:Option Nat} {t:TypeId} {p:String} {af:Array Edge} {g:Option (Nat×Bool)}
theorem tS {T E:TypeId} {n:Nat} {parts:List (Nat×Operand)} {z ze:Value} {s gQ sz bz:Nat} {cs:List Value} (hu:P.underlying T=some (.array n E)) (he:fT P E ze s gQ) (hi:fT P T z sz bz) (hf:Instr.fill (fun i=>some (i*s,s)) z.cells (parts.map fun q=>(q.1,ev ρ q.2))=some cs.toArray):
  QT P base ⟨dst,.build T parts.toArray,t,p,af,g⟩ ρ O (.agg cs.toArray):=fun w _=>by
 simp only[execOp,Instr.build,Sem.run_bind,gM hi,Result.andThen_ok,bw hu,cd he]
 simp[hf]
end
def Sa (P:Program) (r:Option Nat) (base:World) (n:Nat) (c:Code) (Q:ll):Nat→Env→List Item→Prop
 |0,_,_=>False
 |m+1,ρ,O=>T P r base n c (K6 (Sa P r base n c Q m) Q) ρ O
theorem pM {P:Program} {r:Option Nat} {base:World} {n:Nat} {c:Code} {Q:ll} {ρ:Env} {O:List Item} (m:Nat) (h:Sa P r base n c Q m ρ O):T P r base n (.loop c) Q ρ O:=
 ek (Sa P r base n c Q) (fun m=>m) m h fun s ρ O h=>by
  cases s with
  |zero=>exact h.elim
  |succ s=>exact T.mono (show T P r base n c (K6 (Sa P r base n c Q s) Q) ρ O from h) (fun e ρ O h=>by cases e<;>first|exact⟨s,Nat.lt_succ_self s,h⟩|exact h)
theorem T.round {P:Program} {r:Option Nat} {base:World} {n m:Nat} {c:Code} {Q:ll} {ρ:Env} {O:List Item} (h:T P r base n c (K6 (Sa P r base n c Q m) Q) ρ O):Sa P r base n c Q (m+1) ρ O:=h
structure Mk (Wt:Type) where
 i:Nat
 d:Nat
 val:Wt→Value
 lx:Wt→List Item
section
variable {X:PX} {P:Program} {r:Option Nat} {base:World} {n:Nat} {ρ:Env} {O S:List Item} {tail:List Nat} {ops:Array Oper} {K:Env→List Item→Prop} {Wt:Type}
theorem Sub.trans {A B C:List Item} (h:Sub A B) (h2:Sub B C):Sub A C:=by
 obtain⟨l1,p1,s1⟩:=h
 obtain⟨l2,p2,s2⟩:=h2
 obtain⟨l3,p3,s3⟩:=List.exists_perm_sublist s1 p2
 exact⟨l3,p1.trans p3.symm,s3.trans s2⟩
theorem getD_lt {l:Array Bool} {j:Nat} (h:j<l.size) (a b:Bool):l.getD j a=l.getD j b:=by simp[h]
def left (listed:Array Bool) (mk:List (Mk Wt)):Nat:=(mk.filter fun q=>!listed.getD q.i false).length
end
def tT (φ:Prop) (L:List Item):Item where
 blocks:=L.flatMap Item.blocks
 P w:=φ∧ ∀it∈L,it.P w
 loc w w' h:=fun hp=>⟨hp.1,fun it hi=>it.loc w w' (fun b hb=>h b (List.mem_flatMap.2 ⟨it,hi,hb⟩)) (hp.2 it hi)⟩
theorem xZ {base w:World} {φ:Prop} {L M:List Item} (X9:φ) (h:Inv base (L++M) w):Inv base (tT φ L::M) w:=
 ⟨h.below,fun it hi=>(List.mem_cons.1 hi).elim (fun e=>e▸⟨X9,fun x hx=>h.holds x (aO _ hx)⟩) fun hm=>h.holds it (ao _ hm),
  fun it hi b hb=>(List.mem_cons.1 hi).elim (fun e=>by
   subst e
   obtain⟨x,hx,hbx⟩:=List.mem_flatMap.1 hb
   exact h.fresh x (aO _ hx) b hbx) fun hm=>h.fresh it (ao _ hm) b hb,
  by have:=h.nodup;rwa[List.flatMap_append]at this⟩
theorem Bw {base w:World} {φ:Prop} {L M:List Item} (h:Inv base (tT φ L::M) w):φ∧Inv base (L++M) w:=by
 have h0:=h.holds (tT φ L) List.mem_cons_self
 refine⟨h0.1,h.below,fun it hi=>(List.mem_append.1 hi).elim (h0.2 it) fun hm=>h.holds it (List.mem_cons_of_mem _ hm),fun it hi b hb=>(List.mem_append.1 hi).elim (fun hm=>h.fresh (tT φ L) List.mem_cons_self b (List.mem_flatMap.2 ⟨it,hm,hb⟩)) fun hm=>h.fresh it (List.mem_cons_of_mem _ hm) b hb,?_⟩
 have:=h.nodup
 rwa[List.flatMap_append]
section
variable {P:Program} {r:Option Nat} {base:World} {n:Nat} {c:Code} {Q:ll} {ρ:Env} {φ:Prop} {L M:List Item} {f:FuncId} {args:List Value}
theorem tU (X9:φ) (h:T P r base n c Q ρ (tT φ L::M)):T P r base n c Q ρ (L++M):=fun a w N D hM ha hi=>
 h a w N D hM ha (by rw[a6]at hi;exact xZ X9 hi)
theorem FC (h:φ→T P r base n c Q ρ (L++M)):T P r base n c Q ρ (tT φ L::M):=fun a w N D hM ha hi=>by
 have hu:=Bw (M:=M++(mI D++N)) hi
 exact h hu.1 a w N D hM ha (by rw[a6];exact hu.2)
theorem cj.RW {O:List Item} {R R':Value→List Item→Prop} (h:cj P base f args O R) (hr: ∀v O',R v O'→ ∃φ L M,φ∧O'=L++M∧R' v (tT φ L::M)):cj P base f args O R':=fun w N hI=>
 (h w N hI).mono fun _ _ ⟨v,O',h1,h2,h3⟩=>by
  obtain⟨φ,L,M,X9,rfl,hR⟩:=hr v O' h3
  exact⟨v,tT φ L::M,h1,xZ (M:=M++N) X9 (by rw[←a6];exact h2),hR⟩
end
structure DK where
 nb:Option Addr
 nc:Nat
 fb:Option Addr
 fc:Nat
 qs:List Rec
abbrev dC (d:cV) (k:DK):List Value:=fE d k.nb k.nc k.fb k.fc
abbrev dV (d:cV) (k:DK):Value:=.agg (dC d k).toArray
abbrev At (w:World) (d:cV) (k:DK):Prop:=jB w d k.nb (dG k.qs) k.fb
def dI (II Bo I:TypeId) (d:cV) (k:DK):Item:=tT (nums k.qs=d.next) ([av k.nb k.nc II 1 (dG k.qs),av k.fb k.fc Bo 1 (cI d.a7)]++cg I k.qs)
theorem Inv.at {base w:World} {O:List Item} {II Bo I:TypeId} {d:cV} {k:DK} (hI:Inv base O w) (h:dI II Bo I d k∈O):At w d k:=by
 have h0:=hI.holds _ h
 have g: ∀it∈[av k.nb k.nc II 1 (dG k.qs),av k.fb k.fc Bo 1 (cI d.a7)]++cg I k.qs,it.P w:=h0.2
 refine⟨rowP.sl (g (av k.nb k.nc II 1 (dG k.qs)) (by simp)),?_,rowP.sl (g (av k.fb k.fc Bo 1 (cI d.a7)) (by simp))⟩
 rw[←h0.1]
 refine⟨by simp,fun i x hx=>?_⟩
 rw[bi]at hx
 obtain⟨q,hq,rfl⟩:=Option.map_eq_some_iff.1 hx
 refine⟨q.b,q.c,by rw[bi,hq];rfl,?_⟩
 have:(Rec.qt I q).P w:=g _ (ao _ (List.mem_map_of_mem (bJ hq)))
 exact rowP.sl this
theorem cj.dk {P:Program} {base:World} {f:FuncId} {args:List Value} {O:List Item} {II Bo I:TypeId} {D:cV} {g:Value→Value} (h:cj P base f args O fun v N=> ∃C2 C3 pt pu qs,v=g (.agg (fE D C2 C3 pt pu).toArray)∧N=[av C2 C3 II 1 (dG qs),av pt pu Bo 1 (cI D.a7)]++cg I qs∧nums qs=D.next):
  cj P base f args O fun v N=> ∃k:DK,v=g (dV D k)∧N=[dI II Bo I D k]:=
 h.RW fun v O' hR=>by
  obtain⟨nb,nc,fb,fc,qs,rfl,rfl,hq⟩:=hR
  exact⟨nums qs=D.next,_,[],hq,(c_ _).symm,⟨nb,nc,fb,fc,qs⟩,F,F⟩
theorem Inv.rI {base w:World} {O:List Item} {d:cV} {k:DK} (hI:Inv base O w) (h:At base d k):At w d k:=hI.CU h
section
variable {P:Program} {base:World} {ρ:Env} {O:List Item} {dst:Option Nat} {t:TypeId} {p:String} {af:Array Edge} {g:Option (Nat×Bool)}
theorem jJ {x y:Operand} {T E:TypeId} {b o n i:Nat} {k:IntKind} {z:Value} {s gQ:Nat} (hu:P.underlying T=some (.array n E)) (hi:fT P E z s gQ) (hx:ev ρ x=.pointer (some ⟨b,o,none⟩)) (hy:ev ρ y=.int k (i:Int)) (gw:i<n):
  QT P base ⟨dst,.indexAddr T x y,t,p,af,g⟩ ρ O (.pointer (some ⟨b,o+i*s,none⟩)):=fun w _=>by
 have h2:(i:Int)<(n:Int):=by omega
 simp[execOp,hx,hy,Instr.indexAt,asIntOf,bw hu,gw,cd hi,Instr.sureAddr,Addr.add]
 try (intro h;rcases h with h|h<;>simp[h])
end
theorem C0 {e:Edge} (hb:Region.binds .any e=true): ∀ {l:List Edge},e∈l→(tM l).testBit e.on=true
 |a::l,h=>by
  rw[tM,Nat.testBit_or,Bool.or_eq_true]
  rcases List.mem_cons.1 h with rfl|h
  ·exact .inl (by rw[aJ hb,Nat.one_shiftLeft,Nat.testBit_two_pow];simp)
  ·exact .inr (C0 hb h)
def Bu (ops:Array Oper) (d j:Nat):Bool:=!d.testBit j&&Nat.beq (mU ops j&&&d) (mU ops j)
def G9 (ops:Array Oper) (d i:Nat):Bool:=match ops[i]? with
 |none=>false
 |some oi=>(List.range ops.size).all fun j=>Nat.beq j i||d.testBit j||(mU ops j).testBit i||match ops[j]? with
  |some oj=>oi.apart ops oj
  |none=>true
def so (ops:Array Oper) (tail dw:List Nat):List (Nat×Nat)→Nat→Bool
 | [],d=>(List.range ops.size).all fun j=>!Bu ops d j
 |(i,0)::l,d=>(qv ops tail i&&G9 ops d i&&Nat.blt i ops.size&&Bu ops d i)&&so ops tail dw l (d|||1<<<i)
 |(i,3)::l,d=>(qv ops dw i&&G9 ops d i&&Nat.blt i ops.size&&Bu ops d i)&&so ops tail dw l (d|||1<<<i)
 |(i,_)::l,d=>(Nat.blt i ops.size&&Bu ops d i&&(List.range ops.size).all fun j=>Nat.beq j i||!Bu ops d j)&&so ops tail dw l (d|||1<<<i)
def p_ (ops:Array Oper) (listed:Array Bool) (d:Nat):Prop:=listed.size=ops.size∧ ∀k,listed.getD k false=d.testBit k
theorem p_.start (ops:Array Oper):p_ ops (Array.replicate ops.size false) 0:=⟨by simp,fun k=>by
 rw[Nat.zero_testBit,dv,Array.getElem?_replicate]
 split<;>rfl⟩
theorem p_.set {ops:Array Oper} {listed:Array Bool} {d i:Nat} (h:p_ ops listed d) (hi:i<ops.size):p_ ops (listed.setIfInBounds i true) (d|||1<<<i):=⟨by simpa using h.1,fun k=>by
 rw[Nat.testBit_or,Nat.one_shiftLeft,Nat.testBit_two_pow,←h.2 k]
 by_cases e:i=k
 ·subst e
  have:i<listed.size:=by rw[h.1];exact hi
  simp[this]
 ·rw[getD_set_ne false e,am e,Bool.or_false]⟩
theorem p_.ready {ops:Array Oper} {listed:Array Bool} {d j:Nat} (h:p_ ops listed d) (hj:j<ops.size):j∈Region.ready .any ops listed↔Bu ops d j=true:=by
 have e1:listed.getD j true=d.testBit j:=by rw[←h.2 j];exact getD_lt (by rw[h.1];exact hj) _ _
 have ho:ops[j]? =some ops[j]:=Array.getElem?_eq_getElem hj
 have hm:mU ops j=tM ops[j].after.toList:=by unfold mU;rw[ho]
 rw[mem_ready,e1]
 unfold Bu
 rw[ay,Bool.not_eq_true',Nat.beq_eq,hm]
 refine and_congr_right fun _=>?_
 constructor
 ·rintro⟨o,tD,lj⟩
  rw[ho]at tD;cases tD
  refine Nat.eq_of_testBit_eq fun k=>?_
  rw[Nat.testBit_and]
  cases hk:(tM ops[j].after.toList).testBit k with
  |false=>rfl
  |true=>
   obtain⟨e,he,hb,rfl⟩:=u0 hk
   have:=lj e (by simpa using he) hb
   rw[h.2]at this
   rw[this];rfl
 ·intro he
  refine⟨_,ho,fun e sd hb=>?_⟩
  have hk:=C0 hb (l:=ops[j].after.toList) (by simpa using sd)
  rw[h.2]
  rw[←he,Nat.testBit_and,ay]at hk
  exact hk.2
theorem xY {ops:Array Oper} {listed:Array Bool} {j:Nat} (h:j∈Region.ready .any ops listed):j<ops.size:=by
 obtain⟨_,o,ho,_⟩:=mem_ready.1 h
 exact(Array.getElem?_eq_some_iff.1 ho).1
theorem I9 {l:List Nat} {i:Nat} (hn:l.Nodup) (h: ∀j,j∈l↔j=i):l=[i]:=by
 cases l with
 |nil=>exact absurd ((h i).2 F) (by simp)
 |cons a l=>
  obtain rfl:a=i:=(h a).1 (by simp)
  have h1:=(List.nodup_cons.1 hn).1
  cases l with
  |nil=>rfl
  |cons b l=>
   have:b=a:=(h b).1 (by simp)
   subst this
   exact absurd (by simp) h1
theorem C1 (ops:Array Oper) (listed:Array Bool):(Region.ready .any ops listed).Nodup:=by
 unfold Region.ready
 exact List.nodup_range.filter _
theorem G_ {ops:Array Oper} {listed:Array Bool} {d i:Nat} (h:p_ ops listed d) (hf:G9 ops d i=true):Region.free .any ops listed i=true:=by
 unfold G9 at hf
 unfold Region.free
 cases ho:ops[i]? with
 |none=>rw[ho]at hf;cases hf
 |some oi=>
  rw[ho]at hf
  simp only at hf⊢
  rw[fJ]at hf⊢
  intro j hj
  have X8:j<ops.size:=List.mem_range.1 hj
  have h1:=hf j hj
  have e1:listed.getD j true=d.testBit j:=by rw[←h.2 j];exact getD_lt (by rw[h.1];exact X8) _ _
  have TN:ops[j]? =some ops[j]:=Array.getElem?_eq_getElem X8
  rw[TN]at h1⊢
  simp only[Bool.or_eq_true]at h1⊢
  rw[e1]
  rcases h1 with((h1|h1)|h1)|h1
  ·exact .inl (.inl (by simpa using h1))
  ·exact .inl (.inr h1)
  ·obtain⟨o,tD,e,he,hb,hon⟩:=oe h1
   rw[TN]at tD;cases tD
   exact .inr (.inl (Array.any_eq_true'.2 ⟨e,he,by rw[hb,hon];simp⟩))
  ·exact .inr (.inr h1)
theorem Bv {ops:Array Oper} {tail dw:List Nat} {i:Nat} {l:List (Nat×Nat)} {listed:Array Bool} {d:Nat} (h:p_ ops listed d) (ih: ∀ {listed:Array Bool} {d:Nat},p_ ops listed d→so ops tail dw l d=true→jS ops tail dw l listed=true) (hw:((Nat.blt i ops.size&&Bu ops d i&&(List.range ops.size).all fun j=>Nat.beq j i||!Bu ops d j)&&so ops tail dw l (d|||1<<<i))=true):((Region.ready .any ops listed== [i])&&jS ops tail dw l (listed.setIfInBounds i true))=true:=by
 simp only[ay,Nat.blt_eq,fJ,Bool.or_eq_true,Nat.beq_eq,Bool.not_eq_true']at hw
 obtain⟨⟨⟨h1,h2⟩,h3⟩,h4⟩:=hw
 rw[ay]
 refine⟨?_,ih (h.set h1) h4⟩
 rw[beq_iff_eq]
 refine I9 (C1 _ _) fun j=>⟨fun hj=>?_,fun e=>e▸(h.ready h1).2 h2⟩
 have X8:=xY hj
 rcases h3 j (List.mem_range.2 X8)with e|e
 ·exact e
 ·rw[(h.ready X8).1 hj]at e;cases e
theorem oS {ops:Array Oper} {tail dw:List Nat}: ∀ {l:List (Nat×Nat)} {listed:Array Bool} {d:Nat},p_ ops listed d→so ops tail dw l d=true→jS ops tail dw l listed=true
 | [],listed,d,h,hw=>by
  simp only[so,fJ]at hw
  show(Region.ready .any ops listed).isEmpty=true
  cases hr:Region.ready .any ops listed with
  |nil=>rfl
  |cons j r=>
   have hj:j∈Region.ready .any ops listed:=by rw[hr];simp
   have h1:=hw j (List.mem_range.2 (xY hj))
   rw[(h.ready (xY hj)).1 hj]at h1;cases h1
 |(i,0)::l,listed,d,h,hw=>by
  simp only[so,ay,Nat.blt_eq]at hw
  obtain⟨⟨⟨⟨h1,h2⟩,h3⟩,h4⟩,h5⟩:=hw
  simp only[jS,ay]
  exact⟨⟨⟨h1,G_ h h2⟩,by simpa using(h.ready h3).2 h4⟩,oS (h.set h3) h5⟩
 |(i,3)::l,listed,d,h,hw=>by
  simp only[so,ay,Nat.blt_eq]at hw
  obtain⟨⟨⟨⟨h1,h2⟩,h3⟩,h4⟩,h5⟩:=hw
  simp only[jS,ay]
  exact⟨⟨⟨h1,G_ h h2⟩,by simpa using(h.ready h3).2 h4⟩,oS (h.set h3) h5⟩
 |(i,1)::l,listed,d,h,hw=>Bv h oS hw
 |(i,2)::l,listed,d,h,hw=>Bv h oS hw
 |(i,m+4)::l,listed,d,h,hw=>Bv h oS hw
def Sb (ops:Array Oper) (l:List (Nat×Nat)):Bool:=(Region.noSelect ops&&ky ops&&Nat.beq l.length ops.size&&(l.all fun q=>(q.2==2||!(oB l).contains q.1)&&(q.2==2||q.2==4||!(mi l).contains q.1)))&&so ops (oB l) (mi l) l 0
theorem xX {ops:Array Oper} {l:List (Nat×Nat)} (h:Sb ops l=true):xM ops l=true:=by
 simp only[Sb,ay,Nat.beq_eq]at h
 obtain⟨⟨⟨⟨h1,h2⟩,h3⟩,h4⟩,h5⟩:=h
 simp only[xM,ay]
 exact⟨⟨⟨⟨h1,h2⟩,by rw[h3];simp⟩,h4⟩,oS (p_.start ops) h5⟩
theorem Ln {α:Type} {L:List α} {f:α→Bool} {i:Nat} (hi:i<L.length) (h:(L.take i).any f=false) (h2:f L[i]=false):(L.take (i+1)).any f=false:=by
 rw[aH hi,List.any_append,h];simp[h2]
theorem T8 {α:Type} {L:List α} {f:α→Bool} {i:Nat} (hi:i<L.length) (h:f L[i]=true):L.any f=true:=
 List.any_eq_true.2 ⟨_,aN hi,h⟩
end Go.Lx
namespace Go.Lx
end Go.Lx
namespace Go.Lx
def jM (d:cV) (s:Nat):Nat:=(iq d d.next.length).getD s 0
theorem nv {d:cV} (hv:Val d) {s t:Nat} (hs:s<d.next.length) (ht:t<d.next.length):jM d s=jM d t↔ ∀u,Wd d u→ ¬dst d s t u:=Q9 hv hs ht
theorem J3 {d:cV} (hv:Val d) {s t:Nat} (hs:s<d.next.length) (ht:t<d.next.length) (h:jM d s=jM d t):dF d s=dF d t:=by
 have:=(nv hv hs ht).1 h [] (fun x hx=>by cases hx)
 exact Classical.not_not.1 this
theorem Gw {d:cV} (hv:Val d) {s t x:Nat} (hs:s<d.next.length) (ht:t<d.next.length) (hx:x<ez d) (h:jM d s=jM d t):jM d (eS d s x)=jM d (eS d t x):=by
 rw[nv hv (oy hv hs hx) (oy hv ht hx)]
 intro u hu hd
 exact(nv hv hs ht).1 h (x::u) (fun y hy=>by rcases List.mem_cons.1 hy with rfl|hy;exact hx;exact hu y hy) hd
theorem H9 {d:cV} {cs:List Nat} (hl:cs.length=d.next.length) (hc:xn cs=cs): ∀k,k≤d.next.length→ ∀c,c<(iZ d cs k).1.length→ ∃s,s<k∧cs.getD s 0=c∧(iZ d cs k).1[c]? =some ((gj cs (d.next.getD s [])).map fun c:Nat=>(c:Int))∧(iZ d cs k).2[c]? =some (dF d s)
 |0,_,c,h=>by simp[iZ]at h
 |k+1,hk,c,h=>by
  have ih:=H9 hl hc k (by omega)
  have ig:=lq d cs k
  by_cases hn:cs.getD k 0<(iZ d cs k).1.length
  ·rw[iZ,aJ hn]at h⊢
   obtain⟨s,h1,h2⟩:=ih c h
   exact⟨s,by omega,h2⟩
  ·rw[iZ,aA hn]at h⊢
   by_cases oO:c<(iZ d cs k).1.length
   ·obtain⟨s,h1,h2,h3,h4⟩:=ih c oO
    exact⟨s,by omega,h2,by rw[bE oO];exact h3,by rw[bE (by omega)];exact h4⟩
   ·have hce:c=(iZ d cs k).1.length:=by simp at h;omega
    refine⟨k,by omega,?_,?_,?_⟩
    ·have h1:=uE (l:=cs) hl hc.symm k (by omega)
     have h2:=uE (l:=cs) hl hc.symm (k+1) hk
     have n6:k<cs.length:=by omega
     have hg:=ap n6
     have Xr:cs.getD k 0=ix cs[k] (dd cs):=by
      have:=lH hg
      rw[hc]at this
      rw[az,this];rfl
     have Ax:dd (cs.take (k+1))<+:dd cs:=by
      conv=>rhs;rw[←List.take_append_drop (k+1) cs]
      rw[vx];exact gI _ _
     have hm:cs[k]∈dd (cs.take (k+1)):=ku.2 (by rw[aH n6];exact ao _ (List.mem_singleton.2 F))
     have gw:=sr hm
     rw[Xr,ir Ax hm]
     rw[Xr,ir Ax hm]at hn
     rw[iZ,aA (by rw[Xr,ir Ax hm];exact hn)]at h2
     simp at h2
     omega
    ·rw[hce,bM (aS _)];simp
    ·rw[hce,ig.1,bM (aS _)];simp[dF]
def pA (d:cV):cV:=quo d (iq d d.next.length)
theorem oL {d:cV} (hv:Val d):Val (pA d):=(Q_ hv d.next.length).1
theorem Gx {d:cV} (hv:Valid d):Valid (pA d):=(H1 hv d.next.length).1
theorem N5 {d:cV} (hv:Val d) {s:Nat} (hs:s<d.next.length):jM d s<(pA d).next.length:=by
 rw[pA,HZ (fD d _) (p6 d _)]
 exact NO (p6 d _) (HY hs)
theorem H_ {d:cV} (hv:Val d) {c:Nat} (hc:c<(pA d).next.length): ∃s,s<d.next.length∧jM d s=c∧dF (pA d) c=dF d s∧ ∀x,x<ez d→eS (pA d) c x=jM d (eS d s x):=by
 obtain⟨s,h1,h2,h3,h4⟩:=H9 (fD d d.next.length) (p6 d _) d.next.length (aS _) c hc
 refine⟨s,h1,h2,?_,?_⟩
 ·show(iZ d (iq d d.next.length) d.next.length).2.getD c false=_
  rw[az,h4];rfl
 ·intro x hx
  have qy:(pA d).next.getD c []=(gj (iq d d.next.length) (d.next.getD s [])).map fun c:Nat=>(c:Int):=by
   show(iZ d (iq d d.next.length) d.next.length).1.getD c []=_
   rw[az,h3];rfl
  have hls:(d.next.getD s []).length=ez d:=by simp[h1];exact hv.len _ (aN h1)
  have tK:x<(d.next.getD s []).length:=by omega
  have e1:(d.next.getD s []).getD x 0=(d.next.getD s [])[x]:=by rw[az,ap tK];rfl
  rw[eS,qy,az,bi,gj,bi,ap tK]
  show(((iq d d.next.length).getD (d.next.getD s [])[x].toNat 0:Nat):Int).toNat=jM d (eS d s x)
  rw[Int.toNat_natCast,jM,eS,e1]
theorem vz {d:cV} (hv:Val d) {s x:Nat} (hs:s<d.next.length) (hx:x<ez d):eS (pA d) (jM d s) x=jM d (eS d s x):=by
 obtain⟨s',h1,h2,_,h4⟩:=H_ hv (N5 hv hs)
 rw[h4 x hx]
 exact Gw hv h1 hs hx h2
theorem yQ {d:cV} (hv:Val d) {s:Nat} (hs:s<d.next.length):dF (pA d) (jM d s)=dF d s:=by
 obtain⟨s',h1,h2,h3,_⟩:=H_ hv (N5 hv hs)
 rw[h3];exact J3 hv h1 hs h2
theorem EB {d:cV} (hv:Val d) {s:Nat} (hs:s<d.next.length): ∀w,Wd d w→runN (pA d) (jM d s) w=jM d (runN d s w):=by
 refine pw (fun _=>rfl) ?_
 intro w x ih hw
 have I4:Wd d w:=fun y hy=>hw y (by simp[hy])
 rw[eQ,eQ,ih I4,vz hv (jI hv hs w I4) (hw x (by simp))]
theorem p7 (d:cV):(pA d).start.toNat=jM d d.start.toNat:=by
 show(((iq d d.next.length).getD d.start.toNat 0:Nat):Int).toNat=_
 rw[Int.toNat_natCast];rfl
theorem rr {d:cV} (hv:Val d): ∃r,order d=d.start.toNat::r:=by
 have hp:=jP d 0 d.next.length (bl _)
 obtain⟨r,hr⟩:=hp
 exact⟨r,hr.symm⟩
theorem vA {d:cV} (hv:Val d):Val (eo d):=by
 obtain⟨r,hr⟩:=rr hv
 have hl:=rC hv
 have Lj:0<(order d).length:=by rw[hr];simp
 refine⟨hv.v0,hv.v6,?_,?_,Int.le_refl _,?_,?_,?_⟩
 ·simpa[eo]using Lj
 ·simp[eo]
 ·show(0:Int)<((eo d).next.length:Nat)
  simp only[eo,ar];omega
 ·intro r hr
  obtain⟨o,ho,rfl⟩:=List.mem_map.1 hr
  rw[ar,EC];rfl
 ·intro r hr x hx
  obtain⟨o,ho,rfl⟩:=List.mem_map.1 hr
  obtain⟨t,ht,rfl⟩:=List.mem_map.1 hx
  refine⟨Int.natCast_nonneg _,?_⟩
  have:=sr (uF hv o ho t ht)
  simp only[eo,ar];omega
theorem Gy {d:cV} (hv:Val d) {s x:Nat} (hs:s∈order d) (hx:x<ez d):eS (eo d) (ix s (order d)) x=ix (eS d s x) (order d):=by
 have hg:=pY hs
 have qy:(eo d).next.getD (ix s (order d)) []=(nj d s).map fun t=>((ix t (order d):Nat):Int):=by
  show((order d).map fun o=>(nj d o).map fun t=>((ix t (order d):Nat):Int)).getD _ []=_
  rw[az,bi,hg];rfl
 rw[eS,qy,az,bi,yR hx]
 show((ix (eS d s x) (order d):Nat):Int).toNat=_
 rw[Int.toNat_natCast]
theorem J4 {d:cV} {s:Nat} (hs:s∈order d):dF (eo d) (ix s (order d))=dF d s:=by
 show((order d).map fun o=>d.a7.getD o false).getD _ false=_
 rw[az,bi,pY hs];rfl
theorem A3 {d:cV} (hv:Val d) {s:Nat} (hs:s∈order d): ∀w,Wd d w→runN d s w∈order d:=by
 refine pw (fun _=>hs) ?_
 intro w x ih hw
 rw[eQ]
 exact uF hv _ (ih fun y hy=>hw y (by simp[hy])) _ (bJ (yR (hw x (by simp))))
theorem A4 {d:cV} (hv:Val d) {s:Nat} (hs:s∈order d): ∀w,Wd d w→runN (eo d) (ix s (order d)) w=ix (runN d s w) (order d):=by
 refine pw (fun _=>rfl) ?_
 intro w x ih hw
 have I4:Wd d w:=fun y hy=>hw y (by simp[hy])
 rw[eQ,eQ,ih I4,Gy hv (A3 hv hs w I4) (hw x (by simp))]
theorem vB {d:cV} (hv:Val d):d.start.toNat∈order d:=by
 obtain⟨r,hr⟩:=rr hv
 rw[hr];simp
theorem ED {d:cV} (hv:Val d):ix d.start.toNat (order d)=0:=by
 obtain⟨r,hr⟩:=rr hv
 rw[hr];simp[ix]
def iH (d:cV) (w:List Nat):Bool:=dF d (runN d d.start.toNat w)
theorem ei {d:cV} (hv:Val d):d.start.toNat<d.next.length:=by have:=hv.s0;have:=hv.s1;omega
theorem A5 {d:cV} (hv:Val d) {w:List Nat} (hw:Wd d w):iH (eo d) w=iH d w:=by
 have h:=A4 hv (vB hv) w hw
 rw[ED hv]at h
 show dF (eo d) (runN (eo d) 0 w)=_
 rw[h,J4 (A3 hv (vB hv) w hw)];rfl
theorem N6 {d:cV} (hv:Val d) {w:List Nat} (hw:Wd d w):iH (pA d) w=iH d w:=by
 unfold iH
 rw[p7,EB hv (ei hv) w hw,yQ hv (jI hv (ei hv) w hw)]
theorem N7 {d:cV} (hv:Val d):Val (jm d):=vA (oL hv)
theorem uZ {d:cV} (hv:Val d) (h:(order d).length≤4096):Valid (eo d):=⟨vA hv,by simpa[eo]using h⟩
theorem EE {d:cV} (hv:Valid d):Valid (eo d):=uZ hv (bo (rC hv.toVal) hv.n4)
theorem pz {d:cV} (hv:Valid d):Valid (jm d):=EE (Gx hv)
theorem tH {d:cV} (hv:Val d) {w:List Nat} (hw:Wd d w):iH (jm d) w=iH d w:=
 (A5 (oL hv) hw).trans (N6 hv hw)
inductive kG (ρ:Nat→Nat→Prop):List Nat→List Nat→Prop
 |nil:kG ρ [] []
 |cons {a b l m}:ρ a b→kG ρ l m→kG ρ (a::l) (b::m)
theorem kG.append {ρ:Nat→Nat→Prop} {l m l' m':List Nat} (h:kG ρ l m) (h':kG ρ l' m'):kG ρ (l++l') (m++m'):=by
 induction h with
 |nil=>exact h'
 |cons h1 _ ih=>exact .cons h1 ih
theorem kG.len {ρ:Nat→Nat→Prop} {l m:List Nat} (h:kG ρ l m):l.length=m.length:=by
 induction h with
 |nil=>rfl
 |cons _ _ ih=>simp[ih]
theorem kG.get {ρ:Nat→Nat→Prop} {l m:List Nat} (h:kG ρ l m): ∀ {i a b:Nat},l[i]? =some a→m[i]? =some b→ρ a b:=by
 induction h with
 |nil=>intro i a b h;simp at h
 |cons h1 _ ih=>
  intro i a b ha hb
  cases i with
  |zero=>simp at ha hb;subst ha;subst hb;exact h1
  |succ i=>exact ih (by simpa using ha) (by simpa using hb)
section
variable {ρ:Nat→Nat→Prop}
def yS (ρ:Nat→Nat→Prop):Prop:= ∀a b a' b',ρ a b→ρ a' b'→(a=a'↔b=b')
theorem kG.mem (ho:yS ρ) {l m:List Nat} (h:kG ρ l m) {a b:Nat} (zU:ρ a b):a∈l↔b∈m:=by
 induction h with
 |nil=>simp
 |cons h1 _ ih=>rw[dm,dm,ih,ho _ _ _ _ zU h1]
theorem kG.ix (ho:yS ρ) {l m:List Nat} (h:kG ρ l m) {a b:Nat} (zU:ρ a b):Lx.ix a l=Lx.ix b m:=by
 induction h with
 |nil=>rfl
 | @cons x y l m h1 _ ih=>
  simp only[Lx.ix,ih]
  by_cases e:a=x
  ·rw[aJ e,aJ ((ho _ _ _ _ zU h1).1 e)]
  ·rw[aA e,aA (fun h=>e ((ho _ _ _ _ zU h1).2 h))]
theorem kG.add (ho:yS ρ) {l m:List Nat} (h:kG ρ l m) {a b:Nat} (zU:ρ a b):kG ρ (Lx.add l a) (Lx.add m b):=by
 unfold Lx.add
 by_cases e:a∈l
 ·rw[aJ e,aJ ((h.mem ho zU).1 e)];exact h
 ·rw[aA e,aA (fun h9=>e ((h.mem ho zU).2 h9))];exact h.append (.cons zU .nil)
theorem kG.foldl (ho:yS ρ) {xs ys:List Nat} (hx:kG ρ xs ys): ∀ {l m:List Nat},kG ρ l m→kG ρ (xs.foldl Lx.add l) (ys.foldl Lx.add m):=by
 induction hx with
 |nil=>intro l m h;exact h
 |cons h1 _ ih=>intro l m h;exact ih (h.add ho h1)
theorem kG.map {f g:Nat→Nat}: ∀(l:List Nat),(∀x∈l,ρ (f x) (g x))→kG ρ (l.map f) (l.map g)
 | [],_=>.nil
 |x::l,h=>.cons (h x (by simp)) (kG.map l fun y hy=>h y (by simp[hy]))
structure uG (ρ:Nat→Nat→Prop) (p q:cV):Prop where
 vars:p.vars=q.vars
 one:yS ρ
 start:ρ p.start.toNat q.start.toNat
 step: ∀a b x,ρ a b→x<ez p→ρ (eS p a x) (eS q b x)
 fin: ∀a b,ρ a b→dF p a=dF q b
theorem uG.nj {p q:cV} (h:uG ρ p q) {a b:Nat} (zU:ρ a b):kG ρ (nj p a) (nj q b):=by
 unfold Lx.nj
 rw[←h.vars]
 exact kG.map _ fun x hx=>h.step a b x zU (List.mem_range.1 hx)
theorem uG.bfs {p q:cV} (h:uG ρ p q): ∀i,kG ρ (dN p i) (dN q i)
 |0=>.cons h.start .nil
 |i+1=>by
  have ih:=h.bfs i
  have hl:=ih.len
  rw[dN,dN,←hl]
  by_cases hi:i<(dN p i).length
  ·rw[aJ hi,aJ hi]
   have IW:i<(dN q i).length:=by omega
   have g1:=ap hi
   have g2:=ap IW
   have e1:(dN p i).getD i 0=(dN p i)[i]:=by rw[az,g1];rfl
   have e2:(dN q i).getD i 0=(dN q i)[i]:=by rw[az,g2];rfl
   rw[e1,e2]
   exact(h.nj (ih.get g1 g2)).foldl h.one ih
  ·rw[aA hi,aA hi];exact ih
theorem uG.order {p q:cV} (h:uG ρ p q) (hp:Val p) (hq:Val q):kG ρ (order p) (order q):=by
 obtain⟨N,h1,h2,_⟩:=yT hp
 have e1:=qq h2 h1
 have hb:=h.bfs N
 have h2q:(dN q N).length=N:=by rw[←hb.len];exact h2
 have hNq:N≤q.next.length:=by rw[←h2q];exact yU hq N
 rw[e1,qq h2q hNq]
 exact hb
theorem uG.eo {p q:cV} (h:uG ρ p q) (hp:Val p) (hq:Val q):eo p=eo q:=by
 have ho:=h.order hp hq
 have rows: ∀ {l m:List Nat},kG ρ l m→(l.map fun o=>(Lx.nj p o).map fun t=>((Lx.ix t (Lx.order p):Nat):Int))=m.map fun o=>(Lx.nj q o).map fun t=>((Lx.ix t (Lx.order q):Nat):Int):=by
  intro l m hlm
  induction hlm with
  |nil=>rfl
  |cons h1 _ ih=>
   rw[cD,cD,ih]
   congr 1
   have hs:=h.nj h1
   have each: ∀ {x y:List Nat},kG ρ x y→(x.map fun t=>((Lx.ix t (Lx.order p):Nat):Int))=y.map fun t=>((Lx.ix t (Lx.order q):Nat):Int):=by
    intro x y hxy
    induction hxy with
    |nil=>rfl
    |cons h2 _ ih2=>rw[cD,cD,ih2,ho.ix h.one h2]
   exact each hs
 have adF: ∀ {l m:List Nat},kG ρ l m→(l.map fun o=>p.a7.getD o false)=m.map fun o=>q.a7.getD o false:=by
  intro l m hlm
  induction hlm with
  |nil=>rfl
  |cons h1 _ ih=>rw[cD,cD,ih];congr 1;exact h.fin _ _ h1
 unfold Lx.eo
 rw[rows ho,adF ho,h.vars]
end
theorem qm {a b:cV} (ha:Val a) (hb:Val b) (Aj:a.vars=b.vars) (h: ∀w,Wd a w→iH a w=iH b w):jm a=jm b:=by
 have Rl: ∀w,Wd a w↔Wd b w:=fun w=>by unfold Wd ez;rw[Aj]
 refine uG.eo (ρ:=fun c1 c2=> ∃s t,s<a.next.length∧t<b.next.length∧jM a s=c1∧jM b t=c2∧ ∀w,Wd a w→dF a (runN a s w)=dF b (runN b t w)) ⟨Aj,?_,?_,?_,?_⟩ (oL ha) (oL hb)
 ·rintro c1 c2 c1' c2' ⟨s,t,hs,ht,rfl,rfl,hw⟩ ⟨s',t',TV,OV,rfl,rfl,I4⟩
  rw[nv ha hs TV,nv hb ht OV]
  constructor
  ·intro h1 u hu hd
   have KN:=(Rl u).2 hu
   refine h1 u KN ?_
   unfold dst at*
   rw[hw u KN,I4 u KN];exact hd
  ·intro h1 u hu hd
   refine h1 u ((Rl u).1 hu) ?_
   unfold dst at*
   rw[←hw u hu,←I4 u hu];exact hd
 ·exact⟨a.start.toNat,b.start.toNat,ei ha,ei hb,(p7 a).symm,(p7 b).symm,h⟩
 ·rintro c1 c2 x ⟨s,t,hs,ht,rfl,rfl,hw⟩ hx
  have Ti:x<ez a:=hx
  have Xm:x<ez b:=by unfold ez at*;rw[←Aj];exact Ti
  refine⟨eS a s x,eS b t x,oy ha hs Ti,oy hb ht Xm,(vz ha hs Ti).symm,(vz hb ht Xm).symm,fun w hww=>?_⟩
  exact hw (x::w) (fun y hy=>by rcases List.mem_cons.1 hy with rfl|hy;exact Ti;exact hww y hy)
 ·rintro c1 c2 ⟨s,t,hs,ht,rfl,rfl,hw⟩
  show dF (pA a) _=dF (pA b) _
  rw[yQ ha hs,yQ hb ht]
  exact hw [] (fun x hx=>by cases hx)
def kO (d:cV) (w:List Nat):Nat:=if dL d≠0 then dL d else if 64<w.length then 4 else if w.any (fun x=>decide (2^d.vars.toNat≤x))=true then 1 else 0
def w5 (d:cV) (w:List Nat):Nat:=if kO d w=0 then runN d d.start.toNat w else 0
def Bl (d:cV) (w:List Nat):Bool:=if kO d w=0 then dF d (runN d d.start.toNat w)else false
theorem ve {d:cV} {w:List Nat}:kO d w=0↔Valid d∧w.length≤64∧Wd d w:=by
 unfold kO
 by_cases h:dL d=0
 ·rw[aA (by simp[h])]
  by_cases h2:64<w.length
  ·rw[aJ h2];exact⟨fun h=>absurd h (by decide),fun h=>by omega⟩
  ·rw[aA h2]
   by_cases h3:w.any (fun x=>decide (2^d.vars.toNat≤x))=true
   ·rw[aJ h3]
    refine⟨fun h=>absurd h (by decide),fun h=>?_⟩
    obtain⟨x,hx,P2⟩:=List.any_eq_true.1 h3
    have:=h.2.2 x hx
    simp at P2
    unfold ez at this
    omega
   ·rw[aA h3]
    refine⟨fun _=>⟨eF.1 h,by omega,fun x hx=>?_⟩,fun _=>rfl⟩
    rcases Nat.lt_or_ge x (ez d)with h4|h4
    ·exact h4
    ·exact absurd (List.any_eq_true.2 ⟨x,hx,ax h4⟩) h3
 ·rw[aJ h];exact⟨fun e=>absurd e h,fun hh=>absurd (eF.2 hh.1) h⟩
theorem Kg {d:cV} {s:Nat} {w:List Nat} {k:Nat} (hk:k<w.length):runN d s (w.take (k+1))=eS d (runN d s (w.take k)) w[k]:=by
 rw[aH hk,eQ]
theorem pB {d:cV} (hv:Val d): ∀i,∀o∈dN d i,∃w,Wd d w∧runN d d.start.toNat w=o
 |0,o,h=>by
  simp only[dN,da]at h
  subst h
  exact⟨[],fun x hx=>(List.not_mem_nil hx).elim,F⟩
 |i+1,o,h=>by
  rw[dN]at h
  split at h
  ·rename_i hi
   rcases(d_ _ _).1 h with h|h
   ·exact pB hv i o h
   ·obtain⟨x,hx,rfl⟩:=List.mem_map.1 h
    have hm:(dN d i).getD i 0∈dN d i:=by
     rw[az,ap hi];exact aN hi
    obtain⟨w,hw,he⟩:=pB hv i _ hm
    refine⟨w++[x],fun y hy=>?_,by rw[eQ,he]⟩
    rcases List.mem_append.1 hy with hy|hy
    ·exact hw y hy
    ·rw[List.mem_singleton.1 hy];exact List.mem_range.1 hx
  ·exact pB hv i o h
theorem Af {f:Nat→Nat}: ∀ {l:List Nat},l.Nodup→(∀a∈l,∀b∈l,f a=f b→a=b)→(l.map f).Nodup
 | [],_,_=>List.nodup_nil
 |a::l,hn,hi=>by
  obtain⟨h1,h2⟩:=List.nodup_cons.1 hn
  rw[cD,List.nodup_cons]
  refine⟨fun hm=>?_,Af h2 fun x hx y hy=>hi x (by simp[hx]) y (by simp[hy])⟩
  obtain⟨y,hy,e⟩:=List.mem_map.1 hm
  have:=hi a (by simp) y (by simp[hy]) e.symm
  exact h1 (this▸hy)
theorem xJ {d:cV} (hv:Val d):jm (eo d)=jm d:=qm (vA hv) hv F fun w hw=>A5 hv hw
theorem xx {d:cV} (hv:Val d):jm (jm d)=jm d:=qm (N7 hv) hv F fun w hw=>tH hv hw
theorem GF {d:cV} (hv:Valid d):CA d=jm d:=by unfold CA;rw[aJ (eF.2 hv)]
open Go.RowKit
def GP (a b:cV) (s t:Nat):List Int:=(List.range (ez a)).map fun x=>((eS a s x*b.next.length+eS b t x:Nat):Int)
def sA (a b:cV):List (List Int):=(List.range (a.next.length*b.next.length)).map fun c=>GP a b (c/b.next.length) (c%b.next.length)
def CB (f:Bool→Bool→Bool) (a b:cV):List Bool:=(List.range (a.next.length*b.next.length)).map fun c=>f (dF a (c/b.next.length)) (dF b (c%b.next.length))
def bZ (f:Bool→Bool→Bool) (a b:cV):cV:=⟨a.vars,((a.start.toNat*b.next.length+b.start.toNat:Nat):Int),sA a b,CB f a b⟩
theorem Bh {n s t:Nat} (ht:t<n):(s*n+t)/n=s∧(s*n+t)%n=t:=by
 rw[Nat.mul_comm]
 exact⟨by rw[Nat.mul_add_div (by omega),Nat.div_eq_of_lt ht,Nat.add_zero],by rw[Nat.mul_add_mod,Nat.mod_eq_of_lt ht]⟩
theorem Ac {n k s t:Nat} (hs:s<k) (ht:t<n):s*n+t<k*n:=by
 have:=Nat.mul_le_mul_right n (show s+1≤k by omega);rw[Nat.succ_mul]at this;omega
theorem ql {n k c:Nat} (h:c<k*n):c/n<k∧c%n<n:=by
 have hn:0<n:=by
  rcases Nat.eq_zero_or_pos n with h0|h0
  ·rw[h0,Nat.mul_zero]at h;exact absurd h (Nat.not_lt_zero _)
  ·exact h0
 exact⟨(Nat.div_lt_iff_lt_mul hn).2 h,Nat.mod_lt _ hn⟩
theorem jO (f:Bool→Bool→Bool) (a b:cV):(bZ f a b).next.length=a.next.length*b.next.length:=by
 show(sA a b).length=_;unfold sA;simp
theorem kx {f:Bool→Bool→Bool} {a b:cV} (ha:Val a) (hb:Val b) (hv:a.vars=b.vars):Val (bZ f a b):=by
 have a0:=ei ha;have b0:=ei hb
 have gw:=Ac a0 b0
 refine {v0:=ha.v0,v6:=ha.v6,n0:=?_,fin:=?_,s0:=?_,s1:=?_,len:=?_,ok:=?_}
 ·rw[jO];omega
 ·rw[jO];show(CB f a b).length=_;unfold CB;simp
 ·show(0:Int)≤((_:Nat):Int);omega
 ·rw[jO];show((_:Nat):Int)<((_:Nat):Int);omega
 ·intro r hr
  obtain⟨c,_,rfl⟩:=List.mem_map.1 (show r∈sA a b from hr)
  unfold GP;simp;rfl
 ·intro r hr x hx
  obtain⟨c,hc,rfl⟩:=List.mem_map.1 (show r∈sA a b from hr)
  obtain⟨y,hy,rfl⟩:=List.mem_map.1 (show x∈GP a b _ _ from hx)
  rw[e_]at hc hy
  obtain⟨h1,h2⟩:=ql hc
  have h3:=(ha.gT h1 hy).1
  have h4:=(hb.gT h2 (by rw[←hv];exact hy)).1
  have:=Ac h3 h4
  rw[jO];omega
theorem Fh {f:Bool→Bool→Bool} {a b:cV} (ha:Val a) (hb:Val b) (hv:a.vars=b.vars) (hn:a.next.length*b.next.length≤4096):Valid (bZ f a b):=⟨kx ha hb hv,by rw[jO];exact hn⟩
theorem CC {f:Bool→Bool→Bool} {a b:cV} {s t:Nat} (hs:s<a.next.length) (ht:t<b.next.length):dF (bZ f a b) (s*b.next.length+t)=f (dF a s) (dF b t):=by
 have hd:=Bh (s:=s) ht
 have hc:=Ac hs ht
 show(CB f a b).getD _ false=_
 unfold CB
 rw[az,bi,List.getElem?_range hc]
 simp only[Option.map_some,Option.getD_some,hd.1,hd.2]
theorem Ad {f:Bool→Bool→Bool} {a b:cV} {s t x:Nat} (hs:s<a.next.length) (ht:t<b.next.length) (hx:x<ez a):eS (bZ f a b) (s*b.next.length+t) x=eS a s x*b.next.length+eS b t x:=by
 have hd:=Bh (s:=s) ht
 have hc:=Ac hs ht
 show(((sA a b).getD _ []).getD x 0).toNat=_
 unfold sA
 rw[az (l:=List.map _ _),bi,List.getElem?_range hc]
 simp only[Option.map_some,Option.getD_some,hd.1,hd.2]
 unfold GP
 rw[az,bi,List.getElem?_range hx]
 exact Int.toNat_natCast _
theorem xw {f:Bool→Bool→Bool} {a b:cV} (ha:Val a) (hb:Val b) (hv:a.vars=b.vars) {s t:Nat} (hs:s<a.next.length) (ht:t<b.next.length): ∀w,Wd a w→runN (bZ f a b) (s*b.next.length+t) w=runN a s w*b.next.length+runN b t w:=by
 refine pw (fun _=>rfl) ?_
 intro w x ih hw
 have hw1:Wd a w:=fun y hy=>hw y (by simp[hy])
 have hw2:Wd b w:=fun y hy=>by have:=hw1 y hy;unfold ez at this⊢;rw[←hv];exact this
 rw[eQ,eQ,eQ,ih hw1,Ad (jI ha hs w hw1) (jI hb ht w hw2) (hw x (by simp))]
theorem CD {f:Bool→Bool→Bool} {a b:cV} (ha:Val a) (hb:Val b) (hv:a.vars=b.vars) {w:List Nat} (hw:Wd a w):iH (bZ f a b) w=f (iH a w) (iH b w):=by
 have a0:=ei ha;have b0:=ei hb
 have hw2:Wd b w:=fun y hy=>by have:=hw y hy;unfold ez at this⊢;rw[←hv];exact this
 unfold iH
 rw[show(bZ f a b).start.toNat=a.start.toNat*b.next.length+b.start.toNat from Int.toNat_natCast _,xw ha hb hv a0 b0 w hw,CC (jI ha a0 w hw) (jI hb b0 w hw2)]
def tG (f:Bool→Bool→Bool) (a b:cV):cV:=jm (bZ f a b)
theorem IG {f:Bool→Bool→Bool} {a b:cV} (ha:Val a) (hb:Val b) (hv:a.vars=b.vars) (hn:a.next.length*b.next.length≤4096):Valid (tG f a b):=pz (Fh ha hb hv hn)
theorem Pr {f:Bool→Bool→Bool} {a b:cV} (ha:Val a) (hb:Val b) (hv:a.vars=b.vars) (hn:a.next.length*b.next.length≤4096) {w:List Nat} (hw:Wd a w):iH (tG f a b) w=f (iH a w) (iH b w):=by
 unfold tG;rw[tH (kx ha hb hv) hw,CD ha hb hv hw]
theorem Ps {f:Bool→Bool→Bool} {a b:cV} (ha:Val a) (hb:Val b) (hv:a.vars=b.vars) (hn:a.next.length*b.next.length≤4096):jm (tG f a b)=tG f a b:=xx (kx ha hb hv)
theorem KI {f:Bool→Bool→Bool} {a b:cV} (ha:Val a) (hb:Val b) (hv:a.vars=b.vars) {w:List Nat} (hw:Wd a w):iH (tG f a b) w=f (iH a w) (iH b w):=by
 unfold tG;rw[tH (kx ha hb hv) hw,CD ha hb hv hw]
theorem KJ {f:Bool→Bool→Bool} {a b:cV} (ha:Val a) (hb:Val b) (hv:a.vars=b.vars):jm (tG f a b)=tG f a b:=xx (kx ha hb hv)
theorem xy {d:cV} (hv:Val d):(jm d).next.length≤d.next.length:=by
 have h1:(jm d).next.length≤(pA d).next.length:=by
  show(eo (pA d)).next.length≤_
  unfold eo
  rw[ar];exact rC (oL hv)
 have h2:=(lq d (iq d d.next.length) d.next.length).2
 exact bo h1 h2
theorem GQ {f:Bool→Bool→Bool} {a b:cV} (ha:Val a) (hb:Val b) (hv:a.vars=b.vars) (hn:a.next.length*b.next.length≤4096):(tG f a b).next.length≤a.next.length*b.next.length:=by
 rw[←jO f a b];exact xy (kx ha hb hv)
theorem Pt {a b:cV} (ha:Val a) (hb:Val b) (hma:jm a=a) (hmb:jm b=b) (hv:a.vars=b.vars) (h: ∀w,Wd a w→iH a w=iH b w):a=b:=by
 rw[←hma,←hmb];exact qm ha hb hv h
theorem IM {d:cV} {w:List Nat} (h:kO d w=0):Bl d w=iH d w:=by unfold Bl iH;rw[aJ h]
def fP (v:Int) (f:Bool):cV:=⟨v,0,[List.replicate (2^v.toNat) 0],[f]⟩
theorem xz {v:Int} (h0:0≤v) (h6:v≤6) (f:Bool):Valid (fP v f):=by
 have n0:0<(fP v f).next.length:=by show 0< [_].length;simp
 have s1:(fP v f).start<((fP v f).next.length:Int):=by show(0:Int)<(([_].length:Nat):Int);simp
 have len: ∀r∈(fP v f).next,r.length=2^(fP v f).vars.toNat:=by
  intro r hr
  rw[List.mem_singleton.1 (show r∈[List.replicate (2^v.toNat) (0:Int)]from hr),jd];rfl
 have ok: ∀r∈(fP v f).next,∀x∈r,0≤x∧x<((fP v f).next.length:Int):=by
  intro r hr x hx
  rw[List.mem_singleton.1 (show r∈[List.replicate (2^v.toNat) (0:Int)]from hr)]at hx
  rw[List.eq_of_mem_replicate hx]
  exact⟨Int.le_refl _,by show(0:Int)<(([_].length:Nat):Int);simp⟩
 exact⟨{v0:=h0,v6:=h6,n0:=n0,fin:=rfl,s0:=Int.le_refl _,s1:=s1,len:=len,ok:=ok},by show[_].length≤4096;simp⟩
theorem KK {v:Int} (h0:0≤v) (h6:v≤6) (f:Bool) {w:List Nat} (hw:Wd (fP v f) w):iH (fP v f) w=f:=by
 have hv:=xz h0 h6 f
 have h1:=jI hv (ei hv) w hw
 have h2:runN (fP v f) (fP v f).start.toNat w=0:=Nat.lt_one_iff.1 h1
 unfold iH;rw[h2];rfl
def iv (v:Int) (w:List Nat):Prop:= ∀x∈w,x<2^v.toNat
structure HasL (v:Int) (n:Nat) (d:cV) (p:List Nat→Bool):Prop where
 valid:Valid d
 len:d.next.length≤n
 vars:d.vars=v
 iH: ∀w,iv v w→iH d w=p w
theorem HasL.wd {v:Int} {n:Nat} {d:cV} {p:List Nat→Bool} (h:HasL v n d p) {w:List Nat}:Wd d w↔iv v w:=by unfold Wd iv ez;rw[h.vars]
structure fQ (v:Int) (n:Nat) (d:cV) (p:List Nat→Bool):Prop extends HasL v n d p where
 min:jm d=d
theorem HasL.op {f:Bool→Bool→Bool} {v:Int} {n m:Nat} {a b:cV} {p q:List Nat→Bool} (ha:HasL v n a p) (hb:HasL v m b q) (h:n*m≤4096):fQ v (n*m) (tG f a b) (fun w=>f (p w) (q w)):=by
 have hl:a.next.length*b.next.length≤n*m:=Nat.mul_le_mul ha.len hb.len
 have hv:a.vars=b.vars:=by rw[ha.vars,hb.vars]
 refine⟨⟨IG ha.valid hb.valid hv (by omega),bo (GQ ha.valid hb.valid hv (by omega)) hl,ha.vars,fun w hw=>?_⟩,Ps ha.valid hb.valid hv (by omega)⟩
 rw[Pr ha.valid hb.valid hv (by omega) (ha.wd.2 hw),ha.iH w hw,hb.iH w hw]
theorem HasL.p9 {v:Int} {n:Nat} {d:cV} {p:List Nat→Bool} (h:HasL v n d p):fQ v n (jm d) p:=
 ⟨⟨pz h.valid,bo (xy h.valid) h.len,h.vars,fun w hw=>by rw[tH h.valid (h.wd.2 hw)];exact h.iH w hw⟩,xx h.valid⟩
theorem fQ.ext {v:Int} {n m:Nat} {a b:cV} {p q:List Nat→Bool} (ha:fQ v n a p) (hb:fQ v m b q) (h: ∀w,iv v w→p w=q w):a=b:=
 Pt ha.valid hb.valid ha.min hb.min (by rw[ha.vars,hb.vars]) fun w hw=>by rw[ha.iH w (ha.wd.1 hw),hb.iH w (ha.wd.1 hw),h w (ha.wd.1 hw)]
def sB (x y:Bool):Bool:=x&&y
def Fi (x y:Bool):Bool:=x||y
def KL (x y:Bool):Bool:=x !=y
def xA (x y:Bool):Bool:=x&&!y
def qn (x _y:Bool):Bool:=!x
def oM (d:cV):cV:=tG qn d d
theorem HasL.not {v:Int} {n:Nat} {d:cV} {p:List Nat→Bool} (h:HasL v n d p) (hn:n*n≤4096):fQ v (n*n) (oM d) (fun w=>!p w):=h.op h hn
theorem uW {f:Bool→Bool→Bool} {a b:cV} (ha:Val a) (hb:Val b) (hv:a.vars=b.vars) {o x:Nat} (ho:o<a.next.length*b.next.length) (hx:x<ez a):
  eS (bZ f a b) o x=eS a (o/b.next.length) x*b.next.length+eS b (o%b.next.length) x∧eS (bZ f a b) o x<a.next.length*b.next.length:=by
 obtain⟨h1,h2⟩:=ql ho
 have h3:=Ad (f:=f) (a:=a) (b:=b) h1 h2 hx
 rw[Nat.div_add_mod']at h3
 refine⟨h3,?_⟩
 rw[h3]
 exact Ac (ha.gT h1 hx).1 (hb.gT h2 (by rw[←hv];exact hx)).1
theorem lY {f:Bool→Bool→Bool} {a b:cV} (ha:Val a) (hb:Val b) (hv:a.vars=b.vars): ∀i,(dN (bZ f a b) i).Nodup∧ ∀o∈dN (bZ f a b) i,o<a.next.length*b.next.length
 |0=>by
  refine⟨by simp[dN],fun o ho=>?_⟩
  simp only[dN,da]at ho
  rw[ho,show(bZ f a b).start.toNat=a.start.toNat*b.next.length+b.start.toNat from Int.toNat_natCast _]
  exact Ac (ei ha) (ei hb)
 |i+1=>by
  obtain⟨h1,h2⟩:=lY ha hb hv i
  rw[dN]
  split
  ·rename_i hi
   refine mR _ _ h1 h2 (fun t ht=>?_)
   obtain⟨x,hx,rfl⟩:=List.mem_map.1 ht
   refine(uW ha hb hv (h2 _ ?_) (List.mem_range.1 hx)).2
   rw[az,ap hi]
   exact aN hi
  ·exact⟨h1,h2⟩
theorem ny {f:Bool→Bool→Bool} {a b:cV} (ha:Val a) (hb:Val b) (hv:a.vars=b.vars) (i:Nat):(dN (bZ f a b) i).length≤a.next.length*b.next.length:=eX (lY ha hb hv i).1 (lY ha hb hv i).2
theorem xB {f:Bool→Bool→Bool} {a b:cV} (ha:Val a) (hb:Val b) (hv:a.vars=b.vars) {i o x:Nat} (ho:o<a.next.length*b.next.length) (hx:x≤ez a):
  (lr (bZ f a b) i o x).Nodup∧ ∀t∈lr (bZ f a b) i o x,t<a.next.length*b.next.length:=by
 obtain⟨h1,h2⟩:=lY (f:=f) ha hb hv i
 exact mR _ _ h1 h2 (fun t ht=>by
  obtain⟨y,hy,rfl⟩:=List.mem_map.1 ht
  exact(uW ha hb hv ho (by have:=List.mem_range.1 hy;omega)).2)
theorem CE {f:Bool→Bool→Bool} {a b:cV} (ha:Val a) (hb:Val b) (hv:a.vars=b.vars) {i o x:Nat} (ho:o<a.next.length*b.next.length) (hx:x≤ez a):
  (lr (bZ f a b) i o x).length≤a.next.length*b.next.length:=eX (xB ha hb hv ho hx).1 (xB ha hb hv ho hx).2
theorem Ae {d:cV} {i o:Nat} (h:(dN d i)[i]? =some o):lr d i o (2^d.vars.toNat)=dN d (i+1):=by rw[uX h];rfl
theorem CF {d:cV} {i o x:Nat} (h:(dN d i)[i]? =some o) (hx:x≤2^d.vars.toNat):lr d i o x<+:dN d (i+1):=by
 rw[←Ae h]
 unfold lr
 have h1:List.range (2^d.vars.toNat)=List.range x++(List.range (2^d.vars.toNat)).drop x:=by
  have h2:=List.take_append_drop x (List.range (2^d.vars.toNat))
  rw[List.take_range,Nat.min_eq_left hx]at h2
  exact h2.symm
 rw[h1,bj,cO]
 exact gI _ _
theorem Fj {d:cV} {i o x:Nat} (h:(dN d i)[i]? =some o) (hx:x≤2^d.vars.toNat) (hi:i+1≤d.next.length):lr d i o x<+:order d:=
 (CF h hx).trans (jP d _ _ hi)
theorem IH {d:cV} {i o x:Nat} (h:(dN d i)[i]? =some o) (hx:x≤2^d.vars.toNat) (hi:i+1≤d.next.length) {t:Nat} (ht:t∈lr d i o x):ix t (lr d i o x)=ix t (order d):=
 (ir (Fj h hx hi) ht).symm
def Pu (z a:cV):Prop:= ∀u u',iv z.vars u→iv z.vars u'→runN z z.start.toNat u=runN z z.start.toNat u'→runN a a.start.toNat u=runN a a.start.toNat u'
theorem kU (d:cV) (s:Nat) (u w:List Nat):runN d s (u++w)=runN d (runN d s u) w:=by simp[runN]
theorem KM {d:cV} {w:List Nat}:Wd d w↔iv d.vars w:=Iff.rfl
theorem Pu.refl (z:cV):Pu z z:=fun _ _ _ _ h=>h
theorem Fk {d z:cV} (hd:Val d) (hz:Val z) (hv:z.vars=d.vars) (h:Pu z d):(order d).length≤z.next.length:=by
 classical
 have hr: ∀o∈order d,∃w,Wd d w∧runN d d.start.toNat w=o:=fun o ho=>pB hd _ o ho
 let g:Nat→Nat:=fun o=>if hx: ∃w,Wd d w∧runN d d.start.toNat w=o then runN z z.start.toNat (Classical.choose hx)else 0
 have hg: ∀o∈order d,∃w,Wd d w∧runN d d.start.toNat w=o∧g o=runN z z.start.toNat w:=fun o ho=>by
  have hx:=hr o ho
  refine⟨Classical.choose hx,(Classical.choose_spec hx).1,(Classical.choose_spec hx).2,?_⟩
  show(if hx:_ then _ else _)=_
  rw[dif_pos hx]
 have wz: ∀w,Wd d w→iv z.vars w:=fun w hw=>by rw[hv];exact hw
 have hn:((order d).map g).Nodup:=Af (w6 hd _).1 fun a ha b hb e=>by
  obtain⟨u,hu,rfl,e1⟩:=hg a ha
  obtain⟨u',KN,rfl,e2⟩:=hg b hb
  exact h u u' (wz u hu) (wz u' KN) (by rw[←e1,←e2,e])
 have:=eX (n:=z.next.length) hn fun x hx=>by
  obtain⟨o,ho,rfl⟩:=List.mem_map.1 hx
  obtain⟨u,hu,_,e1⟩:=hg o ho
  rw[e1]
  exact jI hz (ei hz) u (wz u hu)
 simpa using this
theorem qo {f:Bool→Bool→Bool} {a b z:cV} (ha:Val a) (hb:Val b) (hv:a.vars=b.vars) (hz:Val z) (Xy:z.vars=a.vars) (h1:Pu z a) (h2:Pu z b):(order (bZ f a b)).length≤z.next.length:=by
 refine Fk (kx ha hb hv) hz Xy fun u u' hu KN e=>?_
 rw[show(bZ f a b).start.toNat=a.start.toNat*b.next.length+b.start.toNat from Int.toNat_natCast _,
  xw ha hb hv (ei ha) (ei hb) u (by rw[KM,←Xy];exact hu),xw ha hb hv (ei ha) (ei hb) u' (by rw[KM,←Xy];exact KN),h1 u u' hu KN e,h2 u u' hu KN e]
def CG:cV:=⟨0,0,[],[]⟩
def gU (a b:cV):Nat:=if dL a≠0 then dL a else if dL b≠0 then dL b else if a.vars≠b.vars then 7 else 0
def Kr (f:Bool→Bool→Bool) (a b:cV):cV:=if gU a b=0 then tG f a b else CG
theorem qp {a b:cV}:gU a b=0↔Valid a∧Valid b∧a.vars=b.vars:=by
 unfold gU
 rw[←eF,←eF]
 split
 ·rename_i h;constructor
  ·intro e;exact absurd e h
  ·intro e;exact absurd e.1 h
 ·rename_i h1;split
  ·rename_i h;constructor
   ·intro e;exact absurd e h
   ·intro e;exact absurd e.2.1 h
  ·rename_i h2;split
   ·rename_i h;constructor
    ·intro e;exact absurd e (by decide)
    ·intro e;exact absurd e.2.2 h
   ·rename_i h;constructor
    ·intro _;exact⟨by omega,by omega,Classical.not_not.1 h⟩
    ·intro _;rfl
theorem CH {a b:cV} (h:dL a≠0):gU a b=dL a:=by unfold gU;rw[aJ h]
theorem Bi {a b:cV} (h:dL a=0) (h2:dL b≠0):gU a b=dL b:=by unfold gU;rw[aA (by omega),aJ h2]
theorem Fl {a b:cV} (h:dL a=0) (h2:dL b=0) (h3:a.vars≠b.vars):gU a b=7:=by unfold gU;rw[aA (by omega),aA (by omega),aJ h3]
theorem KO {f:Bool→Bool→Bool} {a b:cV} (h:gU a b=0):Kr f a b=tG f a b:=by unfold Kr;rw[aJ h]
theorem Pv {f:Bool→Bool→Bool} {a b:cV} (h:gU a b≠0):Kr f a b=CG:=by unfold Kr;rw[aA h]
def un (n c:Nat):Int×Int:=(((c/n:Nat):Int),((c%n:Nat):Int))
theorem KP {n c e:Nat} (h:un n c=un n e):c=e:=by
 unfold un at h
 simp only[Prod.mk.injEq]at h
 have h1:c/n=e/n:=by omega
 have h2:c%n=e%n:=by omega
 rw[←Nat.div_add_mod c n,←Nat.div_add_mod e n,h1,h2]
abbrev RV (n c:Nat):List Value:=[.int .i64 ((c/n:Nat):Int),.int .i64 ((c%n:Nat):Int)]
def oG (n:Nat) (ks:List Nat):List Value:=ks.flatMap (RV n)
theorem KQ (n:Nat) (ks:List Nat) (c:Nat):oG n (ks++[c])=oG n ks++RV n c:=by simp[oG]
theorem Bj (n:Nat): ∀ks:List Nat,(oG n ks).length=ks.length*2
 | []=>rfl
 |c::ks=>by
  have:=Bj n ks
  simp only[oG,List.flatMap_cons,aP,bG,dl]at this⊢
  omega
theorem GR {n:Nat}: ∀ {ks:List Nat} {i c:Nat},ks[i]? =some c→ ∀j (h:j<(RV n c).length),(oG n ks)[i*2+j]? =some (RV n c)[j]
 | [],i,c,h,_,_=>by simp at h
 |e::ks,0,c,h,j,hj=>by
  simp only[List.getElem?_cons_zero,Option.some.injEq]at h
  subst h
  rw[Nat.zero_mul,Nat.zero_add,show oG n (e::ks)=RV n e++oG n ks from F,bE hj]
  exact ap hj
 |e::ks,i+1,c,h,j,hj=>by
  rw[show oG n (e::ks)=RV n e++oG n ks from F,bM (by show 2≤_;omega),show(i+1)*2+j-(RV n e).length=i*2+j by show(i+1)*2+j-2=_;omega]
  exact GR (by simpa using h) j hj
abbrev pmap (n:Nat) (ks:List Nat):List ((Int×Int)×Nat):=(ks.map (un n)).zipIdx
theorem Fm {n c:Nat} {ks:List Nat}:un n c∈ks.map (un n)↔c∈ks:=by
 constructor
 ·intro h
  obtain⟨e,he,h2⟩:=List.mem_map.1 h
  rw[←KP h2];exact he
 ·exact fun h=>List.mem_map_of_mem h
theorem KR (n c:Nat): ∀ks:List Nat,ix (un n c) (ks.map (un n))=ix c ks
 | []=>rfl
 |e::ks=>by
  simp only[cD,ix,KR n c ks]
  by_cases h:c=e
  ·rw[h];simp
  ·rw[aA (fun h2=>h (KP h2)),aA h]
theorem IJ (n:Nat) (ks:List Nat) (c:Nat):pmap n (ks++[c])=pmap n ks++[(un n c,ks.length)]:=by
 show((ks++[c]).map (un n)).zipIdx=_
 rw[bj,List.zipIdx_append];simp
theorem KS (n:Nat) (ks:List Nat):(pmap n ks).map Prod.fst=ks.map (un n):=nz _ 0
def E7 (d:cV) (o:Nat):List Int:=(sC d o).map fun x:Nat=>(x:Int)
theorem sD (d:cV):(eo d).next=(order d).map (E7 d):=Fp d
theorem Fq (d:cV):(eo d).a7=(order d).map (dF d):=rfl
theorem Ty {d:cV} {i o:Nat} (h:(dN d i)[i]? =some o) (hi:i≤d.next.length):(order d)[i]? =some o:=by
 obtain⟨hl,e⟩:=List.getElem?_eq_some_iff.1 h
 obtain⟨r,hr⟩:=jP d i d.next.length hi
 show(dN d d.next.length)[i]? =_
 rw[←hr,bE hl];exact h
theorem take_at {α:Type} {l:List α} {i:Nat} {o:α} (h:l[i]? =some o):l.take (i+1)=l.take i++[o]:=by
 obtain⟨hl,e⟩:=List.getElem?_eq_some_iff.1 h
 rw[aH hl,e]
theorem IK {f:Bool→Bool→Bool} {a b:cV} {o:Nat} (ho:o<a.next.length*b.next.length):dF (bZ f a b) o=f (dF a (o/b.next.length)) (dF b (o%b.next.length)):=by
 obtain⟨h1,h2⟩:=ql ho
 have:=CC (f:=f) h1 h2
 rwa[Nat.div_add_mod']at this
theorem GU {f:Bool→Bool→Bool} {a b:cV} {N:Nat} (va:Valid a) (vb:Valid b) (hv:a.vars=b.vars) (h:(dN (bZ f a b) N).length=N):order (bZ f a b)=dN (bZ f a b) N:=
 qq h (by have:=ny (f:=f) va vb hv N;rw[jO];omega)
theorem IL (E:TypeId) (qs:List Rec) (r:Rec):cg E (qs++[r])=cg E qs++[r.qt E]:=bj
theorem Sub.fold (A:List Item) (x:Item) (B S S':List Item) (h:S'=S++[x]):Sub ((A++S')++B) ((A++(x::B))++S):=by
 subst h
 refine⟨_,?_,aY _⟩
 have h1:(A++(S++[x]))++B=A++(S++(x::B)):=by simp
 have h2:(A++(x::B))++S=A++((x::B)++S):=by simp
 rw[h1,h2]
 exact List.Perm.append_left A List.perm_append_comm
theorem vP {d:cV}:gU d d=dL d:=by
 unfold gU
 by_cases h:dL d=0<;>simp[h]
abbrev Xz:DK:=⟨none,0,none,0,[]⟩
theorem Bk {P:Program} {base:World} {f:FuncId} {args:List Value} {O:List Item} {R:Value→List Item→Prop} (II Bo I:TypeId) (h:cj P base f args O R):cj P base f args O (fun v O'=> ∃O2,O'=dI II Bo I CG Xz::O2∧R v O2):=
 (gn II 1 (gn Bo 1 h)).RW fun v O' hR=>by
  obtain⟨O2,rfl,O3,rfl,h3⟩:=hR
  exact⟨nums Xz.qs=CG.next,[av Option.none 0 II 1 [],av Option.none 0 Bo 1 []]++[],O3,F,F,O3,F,h3⟩
theorem pC {d:cV} (hv:Valid d) {s:Nat} (hs:s<d.next.length):(cI d.a7)[s]? =some (.bool (dF d s)):=by
 have hl:s<d.a7.length:=by rw[hv.fin];exact hs
 rw[jE hl];unfold dF;rw[az,ap hl];rfl
theorem xC {d:cV} (hv:Valid d) {s x:Nat} (hs:s<d.next.length) (hx:x<2^d.vars.toNat):(ints d.next[s])[x]? =some (.int .i64 ((eS d s x:Nat):Int)):=by
 obtain⟨_,_,h2,e⟩:=hv.gT hs hx
 rw[gL h2,e]
theorem xD {v:Int} {n:Nat} {d:cV} {p:List Nat→Bool} (h:HasL v n d p):d.next.length<9223372036854775807∧(∀r∈d.next,r.length<9223372036854775807)∧d.a7.length<9223372036854775807:=
 ⟨by have:=h.valid.n4;omega,h.valid.xE,by have:=h.valid.fin;have:=h.valid.n4;omega⟩
theorem HasL.le {v:Int} {n m:Nat} {a:cV} {p:List Nat→Bool} (ha:HasL v n a p) (h:a.next.length≤m):HasL v m a p:=⟨ha.valid,h,ha.vars,ha.iH⟩
open Go.RowKit Go.ChangeShapes Go.WideShapes Go.Deep
section
variable {H:Type} {enc:TypeId×Value→H} {P:Program}
theorem sh (hl:laidOutB P=true) {W W':World} {sp':Nat→Bool}: ∀ {ts:List TypeId} {vs:List Value} {ds:List (DataW H)} {ps:List MemPlace},
  (∀t∈ts,P.readableRec t=true∧t<P.types.size)→DataW.TrodAll enc P W 0 (fun _=>true) true ts vs ds ps→(∀p∈ps,W.sameAt W' p)→(∀p∈ps,sp' p.block=true)→DataW.TrodAll enc P W' 0 sp' true ts vs ds ps
 | [],_,_,_,_,h,_,_=>by
  obtain⟨rfl,rfl,rfl⟩:=trodAll_nil h
  rfl
 |t::ts,_,_,_,hr,h,hs,zI=>by
  obtain⟨v,vs1,d,ds1,p,q,rfl,rfl,rfl,h1,h2⟩:=trodAll_cons h
  have ht:=hr t (by simp)
  exact⟨p,q,WideElems.Trod_stays hl ht.1 ht.2 h1 (fun x hx=>hs x (aO _ hx)) (fun x hx=>zI x (aO _ hx)),
   sh hl (fun t ht=>hr t (by simp[ht])) h2 (fun x hx=>hs x (ao _ hx)) (fun x hx=>zI x (ao _ hx)),F⟩
theorem KV {f:Func} {s:ChangeSpec} {W W':World} {args:Array Value} {ds gs:List (DataW H)} {before:List MemPlace} {tb:TypeId}
  (hl:laidOutB P=true) (hr: ∀t∈f.params.toList,P.readableRec t=true∧t<P.types.size) (XI:f.resultTypes= #[tb]) (hb:P.underlying tb=some .bool) (hv:s.vars=[])
  (hW:DataW.Whole enc P f.params.toList s.vars false W args.toList ds gs before)
  (h1:(s.fn H ds).results=[.lit (.bool true)]) (h2:(s.fn H ds).args=ds) (h3:(s.fn H ds).vars=[])
  (hB:Below W.heap.size W W'):s.post enc P f false true false false W args (.bool true) W':=by
 have hW0:=hW
 obtain⟨p,q,hA,hV,rfl,hz,hn⟩:=hW
 rw[hv]at hV
 obtain⟨rfl,rfl⟩:=trodVars_none hV
 simp only[c_]at hW0 hz hn
 have gw:=hW0.lt
 have XJ: ∀x∈p,W.sameAt W' x:=fun x hx=>hB.same (gw x hx)
 have GW: ∀sp:Nat→Bool,(∀x∈p,sp x.block=true)→DataW.TrodAll enc P W' 0 sp true f.params.toList args.toList (s.fn H (ds++[])).args p:=fun sp zI=>by
  rw[c_,h2]
  exact sh hl hr hA XJ zI
 have Aj: ∀sp:Nat→Bool,DataW.TrodVars enc P W' sp s.vars (s.fn H (ds++[])).vars []:=fun sp=>by
  rw[c_,hv,h3];rfl
 have GX: ∀(b:Nat) (sp:Nat→Bool) (hd:Bool),DataW.TrodAll enc P W' b sp hd f.resultTypes.toList ((Value.bool true).resultList f.resultTypes.size) (s.fn H (ds++[])).results []:=fun b sp hd=>by
  rw[c_,h1,XI]
  exact trodAll_cons_mk (shut_bool hb _) trodAll_mk0
 have hold: ∀x∈p,(fun b=>decide (b<W.heap.size)) x.block=true:=fun x hx=>by simpa using gw x hx
 refine⟨ds,[],p,[],p,[],hW0,GX _ _ _,GW _ hold,Aj _,World.keptBut_mono (fun x hx=>⟨hx,?_⟩) (hB.frame _),fun _=>?_⟩
 ·exact Or.inr (by simpa using hx)
 ·refine⟨ok_one XI F (okWide_bool_mk hb _),_,_,([]++p)++[],⟨[]++p,[],trodAll_append (GW _ (fun _ _=>rfl)) (GX _ _ _),Aj _,F,?_,?_⟩,?_⟩
  ·intro b off hx
   have tK:MemPlace.cell b off∈p:=by simpa using hx
   rw[hB.frozen (p:=⟨b,off,none⟩) (gw _ tK)]
   exact hz b off tK
  ·intro ha;cases ha
  ·intro x hx _
   simpa using hx
theorem K1 {w:World} {a:Addr} {v:Value} (h:w.cell? a=some v):a.spot=none:=by
 unfold World.cell? at h
 cases e:a.spot with
 |none=>rfl
 |some x=>rw[e]at h;split at h<;>simp at h
theorem tL {w:World} {a:Addr} {cs:List Value} (h: ∀i (hi:i<cs.length),w.cell? (a.add i)=some cs[i]):Sl w (some a) cs:=fun i hi=>by
 have h0:=h 0 (by omega)
 have h1:=h i hi
 have h2:a.spot=none:=K1 (a:=a) (by simpa[Addr.add]using h0)
 refine⟨a,F,h2,?_⟩
 have e:a.add i=⟨a.block,a.off+i,none⟩:=by
  unfold Addr.add
  split
  ·rename_i h;subst h
   cases a with
   |mk b o s=>simp at h2;subst h2;rfl
  ·rfl
 rw[←e];exact h1
theorem vT (e:TypeId): ∀ {l:List (DataW H)} {d:DataW H},d∈l→ ∀m∈d.weights P e,m∈DataW.weightsAll P e l
 | [],_,h,_,_=>by cases h
 |x::l,d,h,m,hm=>by
  rw[DataW.weightsAll,gR]
  rcases List.mem_cons.1 h with rfl|h
  ·exact .inl hm
  ·exact .inr (vT e h m hm)
theorem vU {t e:TypeId} {xG spare:List (DataW H)} (ht:P.underlying t=some (.slice e)) (he:0<P.bytesOf e) (h: ∀m∈(DataW.slice xG spare).weights P t,m≤reachBytes):
  xG.length≤reachBytes∧ ∀d∈xG,∀m∈d.weights P e,m≤reachBytes:=by
 have hw:(DataW.slice xG spare).weights P t=(xG.length+spare.length)*P.bytesOf e::(DataW.weightsAll P e xG++DataW.weightsAll P e spare):=by
  rw[DataW.weights,ht]
 rw[hw]at h
 refine⟨?_,fun d hd m hm=>h m (List.mem_cons_of_mem _ (aO _ (vT e hd m hm)))⟩
 have h1:=h _ List.mem_cons_self
 have h2:=Nat.mul_le_mul_left (xG.length+spare.length) (show 1≤P.bytesOf e from he)
 omega
theorem Pz {n:Int} (h:(Lit.int .u8 n).wf=true):0≤n∧n<256:=by
 simp only[Lit.wf,ay,bT]at h
 have h1:(0:Int)≤n:=h.1
 have h2:n≤255:=h.2
 omega
theorem IR {t e:TypeId} {W:World} {r:Reach} {b0:Nat} {v:Value} {d:DataW H} {p:List MemPlace} (ht:P.underlying t=some (.slice e)) (he:P.underlying e=some (.int .u8)) (ce:P.cellsOf e=1) (be:0<P.bytesOf e)
  (mT:Value.okWide P W r b0 t v) (hw: ∀m∈d.weights P t,m≤reachBytes) (h:DataW.Trod enc P W 0 (fun _=>true) true t v d p):
  ∃(l:List Nat) (b:Option Addr) (c:Nat),v=.slice b l.length c∧(Sl W b (pD l)∧ ∀x∈l,x<256)∧l.length≤reachBytes:=by
 obtain⟨gv,hT⟩:=h
 have hv:v.cells.toList=[v]:=by
  unfold Value.okWide at mT
  rw[ht]at mT
  simp only at mT
  unfold Cell.okWide Cell.ok at mT
  rw[ht]at mT
  cases v<;>simp_all[Value.cells]
 rcases open_ints ht he ce hT with⟨xH,_⟩|⟨a,len,cap,zs,xH,_,hl,_,hz,hx,K2,hwz⟩
 ·rw[hv]at xH
  exact⟨[],none,0,by simpa using xH,⟨Sl.nil _ _,fun x hx=>by cases hx⟩,bl _⟩
 ·rw[hv]at xH
  simp only[if_true]at hz
  have hd:d=_:=au Prod.fst hx
  rw[hd]at hw
  have hb:=(vU ht be hw).1
  have Ku:(zs.take len).length=len:=by rw[cw];omega
  have hwt: ∀z∈zs,0≤z∧z<256:=fun z hz=>Pz (hwz z hz)
  refine⟨(zs.take len).map Int.toNat,some a,cap,?_,⟨?_,?_⟩,?_⟩
  ·rw[ar,Ku];simpa using xH
  ·refine tL fun i hi=>?_
   have wI:i<len:=by rw[ar,ar,Ku]at hi;exact hi
   have W8:i<zs.length:=by omega
   have XK:=(hwt _ (aN W8)).1
   rw[K2 i W8]
   simp[W8,cM XK]
  ·intro x hx
   obtain⟨z,hz',rfl⟩:=List.mem_map.1 hx
   have:=hwt z (List.mem_of_mem_take hz')
   omega
  ·rw[ar,Ku]
   have:(lits (H:=H) .u8 (zs.take len)).length=len:=by simp[lits];omega
   omega
end
theorem xI {f:Bool→Bool→Bool} {v:Int} {n m N:Nat} {a b:cV} {p q:List Nat→Bool} (ha:HasL v n a p) (hb:HasL v m b q) (h:(order (bZ f a b)).length≤N) (hN:N≤4096):fQ v N (tG f a b) (fun w=>f (p w) (q w)):=by
 have hv:a.vars=b.vars:=by rw[ha.vars,hb.vars]
 have vD:Val (bZ f a b):=kx ha.valid.toVal hb.valid.toVal hv
 have vR:Valid (eo (bZ f a b)):=uZ vD (bo h hN)
 have e:tG f a b=jm (eo (bZ f a b)):=(xJ vD).symm
 have hl:(jm (eo (bZ f a b))).next.length≤(eo (bZ f a b)).next.length:=xy vR.toVal
 have hr:(eo (bZ f a b)).next.length=(order (bZ f a b)).length:=by simp[eo]
 refine⟨⟨?_,?_,ha.vars,fun w hw=>?_⟩,KJ ha.valid.toVal hb.valid.toVal hv⟩
 ·rw[e];exact pz vR
 ·rw[e];omega
 ·rw[KI ha.valid.toVal hb.valid.toVal hv (ha.wd.2 hw),ha.iH w hw,hb.iH w hw]
abbrev cC (a g:cV) (j k:DK):List Value:=[.int .i64 a.vars,.int .i64 a.start,.slice j.nb a.next.length j.nc,.slice j.fb a.a7.length j.fc,.int .i64 g.vars,.int .i64 g.start,.slice k.nb g.next.length k.nc,.slice k.fb g.a7.length k.fc]
abbrev bC (e:Value) (a g:cV) (j k:DK):List Value:=e::cC a g j k
end Go.Lx
namespace Go.Lx
open Go.RowKit
section
variable {v:Int} {px py p q p1 q1 p2 q2 p3 q3:List Nat→Bool}
end
section
variable {z x a b c d:cV} {px p q p2 q2:List Nat→Bool}
end
section
variable {v:Int} {px py p q p1 q1 p2 q2 p3 q3:List Nat→Bool}
theorem fa {P:List Nat→Prop} (h: ∀w,P w): ∀w,iv v w→P w:=fun w _=>h w
theorem fi {P Q:List Nat→Prop} (h: ∀w,P w↔Q w):(∀w,iv v w→P w)↔ ∀w,iv v w→Q w:=forall_congr' fun w=>forall_congr' fun _=>h w
theorem fc {P Q R:List Nat→Prop} (h: ∀w,P w↔Q w∧R w):(∀w,iv v w→P w)↔(∀w,iv v w→Q w)∧ ∀w,iv v w→R w:=
 ⟨fun a=>⟨fun w hw=>((h w).1 (a w hw)).1,fun w hw=>((h w).1 (a w hw)).2⟩,fun a w hw=>(h w).2 ⟨a.1 w hw,a.2 w hw⟩⟩
end
end Go.Lx
namespace Go.Lx
open Go.RowKit Go.ChangeShapes Go.WideShapes Go.Deep
section
variable {H:Type} {enc:TypeId×Value→H} {P:Program}
end
open Go.RowKit Go.Sort
theorem sq {α:Type} [Inhabited α] (enc:α→Value) (off:Nat) (d:Array α) (c:Array Value):(putCells enc off d c).size=c.size:=by simp[putCells]
theorem wB {α:Type} [Inhabited α] (enc:α→Value) (off:Nat) (d:Array α) (c:Array Value) {i:Nat} (hi:i<d.size) (hc:off+i<c.size):(putCells enc off d c)[off+i]? =some (enc d[i]!):=by
 simp only[putCells,Array.getElem?_mapIdx,Array.getElem?_eq_getElem hc,Option.map_some]
 rw[aJ ⟨by omega,by omega⟩,show off+i-off=i by omega]
theorem Inv.NI {base w:World} {O:List Item} {i lU off cap:Nat} {T:TypeId} {zs ys:List Int} (hI:Inv base O w) (hO:O[i]? =some (av (some ⟨lU,off,none⟩) cap T 1 (ints zs))) (hl:ys.length=zs.length) (n:Nat) (os:Array Obj):
  Inv base (O.set i (av (some ⟨lU,off,none⟩) cap T 1 (ints ys))) (Go.Sort.grow (putRow (Value.int .i64) (Sort.ahead w n) lU off ys.toArray) os):=by
 obtain⟨_,full,hb,oO,Wq,Cz⟩:=hI.row hO
 have gw:lU<w.heap.size:=(Array.getElem?_eq_some_iff.1 hb).1
 have yM:(Go.Sort.grow (putRow (Value.int .i64) (Sort.ahead w n) lU off ys.toArray) os).heap=(w.heap.modify lU (onCells (putCells (Value.int .i64) off ys.toArray)))++os:=rfl
 refine hI.sE hO F F F ?_ (fun b hlb hk=>?_) ⟨F,putCells (Value.int .i64) off ys.toArray full,?_,?_,?_,fun j hj=>?_⟩ (fun k hk=>.inl hk) (by simp[av])
 ·rw[yM];simp
 ·rw[yM,Array.getElem?_append_left (by simpa using hlb),Array.getElem?_modify,aA (fun e=>hk (by simp[av,e]))]
 ·rw[yM,Array.getElem?_append_left (by simpa using gw),Array.getElem?_modify,aJ F,hb];rfl
 ·simp only[ar]at oO⊢;omega
 ·rw[sq];exact Wq
 ·have sP:j<ys.length:=by simpa using hj
  have adv:zs.length≤cap*1:=by simpa using oO
  have adw:off+cap*1≤full.size:=Wq
  show(putCells (Value.int .i64) off ys.toArray full)[off+j]? =_
  rw[wB _ _ _ _ (by simpa using sP) (by omega)]
  simp[sP]
theorem Bb {base w:World} {O:List Item} {i lU off cap:Nat} {T:TypeId} {zs:List Int} (hI:Inv base O w) (hO:O[i]? =some (av (some ⟨lU,off,none⟩) cap T 1 (ints zs))):Holds (Value.int .i64) w lU off zs.toArray∧lU<w.heap.size:=by
 obtain⟨_,full,hb,oO,Wq,Cz⟩:=hI.row hO
 refine⟨fun j hj=>?_,(Array.getElem?_eq_some_iff.1 hb).1⟩
 have sP:j<zs.length:=by simpa using hj
 have h9:=Cz j (by simpa using sP)
 constructor
 ·simp only[World.cell?,hb]
  simp at h9
  simp[h9,sP]
 ·simp[World.frozen?,hb]
theorem Q5 {l m:List Int} (hl:l.Pairwise (· < ·)) (hm:m.Pairwise (· < ·)) (h: ∀y,y∈l↔y∈m):l=m:=
 ((List.perm_ext_iff_of_nodup (hl.imp fun h=>by omega) (hm.imp fun h=>by omega)).2 h).eq_of_pairwise (le:=fun x y:Int=>x<y) (fun a b _ _ h1 h2=>by omega) hl hm
theorem yK {l m:List Nat} (hl:l.Pairwise (· < ·)) (hm:m.Pairwise (· < ·)) (h: ∀y,y∈l↔y∈m):l=m:=
 ((List.perm_ext_iff_of_nodup (hl.imp fun h=>by omega) (hm.imp fun h=>by omega)).2 h).eq_of_pairwise (le:=fun x y:Nat=>x<y) (fun a b _ _ h1 h2=>by omega) hl hm
theorem Eh (zs:List Int) (y:Int):y∈Lib.compact zs↔y∈zs:=by
 unfold Lib.compact Lib.compactUpTo
 simp only[iF,List.mem_filter,e_]
 constructor
 ·rintro⟨j,⟨hj,_⟩,rfl⟩
  rw[getElem!_pos zs.toArray j (by simpa using hj)];simp
 ·intro hy
  have hex: ∃j,j<zs.length∧zs.toArray[j]! =y:=by
   obtain⟨j,hj,e⟩:=List.getElem_of_mem hy
   exact⟨j,hj,by rw[getElem!_pos zs.toArray j (by simpa using hj)];simpa using e⟩
  suffices main: ∀j,j<zs.length→zs.toArray[j]! =y→ ∃i,(i<zs.length∧Lib.keeps zs.toArray i=true)∧zs.toArray[i]! =y by
   obtain⟨j,hj,e⟩:=hex;exact main j hj e
  intro j
  induction j with
  |zero=>exact fun hj e=>⟨0,⟨hj,by simp[Lib.keeps]⟩,e⟩
  |succ j ih=>
   intro hj e
   by_cases h:zs.toArray[j]! =y
   ·exact ih (by omega) h
   ·exact⟨j+1,⟨hj,by simp only[Lib.keeps,bT];exact .inr (by rw[e];exact fun h'=>h h'.symm)⟩,e⟩
theorem Ei {zs:List Int} (h:zs.Pairwise (· ≤ ·)):(Lib.compact zs).Pairwise (· < ·):=by
 have GZ: ∀i j,i≤j→j<zs.length→zs.toArray[i]! ≤zs.toArray[j]! :=fun i j KD hj=>by
  rw[getElem!_pos zs.toArray i (by simp;omega),getElem!_pos zs.toArray j (by simpa using hj)]
  rcases Nat.lt_or_ge i j with h1|h1
  ·simpa using List.pairwise_iff_getElem.1 h i j (by omega) hj h1
  ·have:i=j:=by omega
   subst this;exact Int.le_refl _
 unfold Lib.compact Lib.compactUpTo
 rw[List.pairwise_map]
 refine List.Pairwise.imp_of_mem ?_ (List.Pairwise.filter _ (List.pairwise_lt_range (n:=zs.length)))
 intro i j hi hj KD
 simp only[List.mem_filter,e_]at hi hj
 have h2:=hj.2
 simp only[Lib.keeps,bT]at h2
 have h1:=GZ i (j-1) (by omega) (by omega)
 have h3:=GZ (j-1) j (by omega) hj.1
 omega
def JL (n:Nat) (p:Nat→Bool):List Nat:=(List.range n).filter p
theorem rm {n:Nat} {p:Nat→Bool} {y:Nat}:y∈JL n p↔y<n∧p y=true:=by simp[JL]
theorem pj (n:Nat) (p:Nat→Bool):(JL n p).Pairwise (· < ·):=List.Pairwise.filter _ List.pairwise_lt_range
theorem Mx (n:Nat) (p:Nat→Bool):(JL n p).length≤n:=bo (List.length_filter_le _ _) (by simp)
def ga (d:cV) (l:List Nat) (x:Nat):List Nat:=JL d.next.length fun y=>l.any fun s=>eS d s x==y
theorem rX {d:cV} (hv:Val d) {l:List Nat} (hl: ∀s∈l,s<d.next.length) {x y:Nat} (hx:x<2^d.vars.toNat):y∈ga d l x↔ ∃s∈l,eS d s x=y:=by
 unfold ga;rw[rm]
 simp only[cY,beq_iff_eq]
 constructor
 ·exact fun h=>h.2
 ·rintro⟨s,hs,rfl⟩
  exact⟨(hv.gT (hl s hs) hx).1,s,hs,F⟩
def BK (n:Nat) (l:List Nat) (s:Nat):List Nat:=JL n fun y=>l.contains y||y==s
theorem xm {n:Nat} {l:List Nat} (hl: ∀s∈l,s<n) {s y:Nat} (hs:s<n):y∈BK n l s↔y∈l∨y=s:=by
 unfold BK;rw[rm]
 simp only[Bool.or_eq_true,List.contains_eq_mem,bT,beq_iff_eq]
 exact⟨fun h=>h.2,fun h=>⟨h.elim (hl y) (fun e=>e▸hs),h⟩⟩
theorem Qt {n:Nat} {l:List Nat} (ha:l.Pairwise (· < ·)) (hl: ∀s∈l,s<n) {s:Nat} (hs:s∈l):BK n l s=l:=
 yK (pj _ _) ha fun y=>by rw[xm hl (hl s hs)];exact⟨fun h=>h.elim id (fun e=>e▸hs),.inl⟩
abbrev qU (l:List Int):List Int:=l.mergeSort fun x y=>decide (x≤y)
theorem zW (l:List Int):(qU l).Pairwise fun x y=>x≤y:=by
 have:=List.pairwise_mergeSort (le:=fun x y:Int=>decide (x≤y)) (fun a b c h1 h2=>by simp at*;omega) (fun a b=>by simp;omega) l
 exact this.imp fun h=>by simpa using h
theorem Jo {d:cV} (hv:Val d) {l:List Nat} (hl: ∀s∈l,s<d.next.length) {x:Nat} (hx:x<2^d.vars.toNat):
  Lib.compact (qU (l.map fun s=>((eS d s x:Nat):Int)))=(ga d l x).map fun y:Nat=>(y:Int):=by
 refine Q5 (Ei (zW _)) (List.pairwise_map.2 ((pj _ _).imp fun h=>by omega)) fun y=>?_
 rw[Eh,List.mem_mergeSort,iF,iF]
 constructor
 ·rintro⟨s,hs,rfl⟩;exact⟨_,(rX hv hl hx).2 ⟨s,hs,F⟩,F⟩
 ·rintro⟨y,hy,rfl⟩
  obtain⟨s,hs,rfl⟩:=(rX hv hl hx).1 hy
  exact⟨s,hs,F⟩
theorem HS: ∀ {l:List Nat} {s:Nat},l.Pairwise (· < ·)→s∉l→(l.take (l.countP (· <s))++s::l.drop (l.countP (· <s))).Pairwise (· < ·)
 | [],s,_,_=>by simp
 |a::l,s,h,hs=>by
  rw[List.pairwise_cons]at h
  simp only[dm,not_or]at hs
  by_cases c:a<s
  ·rw[List.countP_cons,aJ (by simpa using c)]
   simp only[List.take_succ_cons,List.drop_succ_cons,cF,List.pairwise_cons]
   refine⟨fun y hy=>?_,HS h.2 hs.2⟩
   rcases List.mem_append.1 hy with hy|hy
   ·exact h.1 y (List.mem_of_mem_take hy)
   ·rcases List.mem_cons.1 hy with rfl|hy
    ·exact c
    ·exact h.1 y (List.mem_of_mem_drop hy)
  ·have h0:(a::l).countP (· <s)=0:=by
    rw[List.countP_eq_zero]
    intro y hy
    rcases List.mem_cons.1 hy with rfl|hy
    ·simpa using c
    ·have:=h.1 y hy;simp;omega
   rw[h0]
   simp only[List.take_zero,du,List.drop_zero,List.pairwise_cons]
   exact⟨fun y hy=>by
    rcases List.mem_cons.1 hy with rfl|hy
    ·omega
    ·have:=h.1 y hy;omega,h.1,h.2⟩
theorem Hn {n:Nat} {l:List Nat} (ha:l.Pairwise (· < ·)) (hl: ∀s∈l,s<n) {s:Nat} (hs:s<n) (hn:s∉l):l.take (l.countP (· <s))++s::l.drop (l.countP (· <s))=BK n l s:=
 yK (HS ha hn) (pj _ _) fun y=>by
  rw[xm hl hs,gR,dm]
  have h9:y∈l↔y∈l.take (l.countP (· <s))∨y∈l.drop (l.countP (· <s)):=by rw[←gR,List.take_append_drop]
  rw[h9]
  constructor
  ·rintro(h|h|h)
   ·exact .inl (.inl h)
   ·exact .inr h
   ·exact .inl (.inr h)
  ·rintro((h|h)|h)
   ·exact .inl h
   ·exact .inr (.inr h)
   ·exact .inr (.inl h)
theorem Inv.drewN {base w:World} {O:List Item} (h:Inv base O w) (q:Nat):Inv base O (w.drewN q):=h.same F F F F
theorem gr (l:List Nat):ints (l.map fun y:Nat=>(y:Int))=bW l:=by simp
theorem HT {w:World} {b:Nat} {o:Obj} (h:w.heap[b]? =some o):j7 w b o=w:=by
 have gw:=(Array.getElem?_eq_some_iff.1 h).1
 have e:w.heap.setIfInBounds b o=w.heap:=by
  apply Array.ext_getElem?
  intro i
  rw[Array.getElem?_setIfInBounds]
  by_cases c:b=i
  ·subst c;rw[aJ F,aJ gw,h]
  ·rw[aA c]
 show({w with heap:=_}:World)=w
 rw[e]
theorem mm {b:Nat} {T:TypeId}: ∀(vs:List Value) (o:Nat) (cs:List Value) (w:World),w.heap[b]? =some (.cells cs.toArray T (0,0))→w.setCells b o vs=j7 w b (.cells (eZ cs o vs).toArray T (0,0))
 | [],o,cs,w,h=>by
  rw[World.setCells,eZ,HT h]
 |v::vs,o,cs,w,h=>by
  have gw:=(Array.getElem?_eq_some_iff.1 h).1
  rw[World.setCells,eZ,tN h,mm vs (o+1) (cs.set o v) (j7 w b _) (l6 gw),Aq]
theorem Inv.setCells {base w:World} {O:List Item} {i b o c p:Nat} {T:TypeId} {cs Bn vs:List Value} (hI:Inv base O w) (hO:O[i]? =some (av (some ⟨b,o,none⟩) c T 1 cs)) (hp:p+vs.length≤c) (hl:Bn.length≤c)
  (hc: ∀j (h:j<Bn.length),Bn[j]? =if p≤j∧j<p+vs.length then vs[j-p]? else cs[j]?):Inv base (O.set i (av (some ⟨b,o,none⟩) c T 1 Bn)) (w.setCells b (o+p) vs):=by
 obtain⟨_,full,hb,h1,h2,h3⟩:=hI.row hO
 obtain⟨fl,rfl⟩: ∃fl:List Value,full=fl.toArray:=⟨full.toList,by simp⟩
 simp only[Nat.mul_one,List.size_toArray]at h1 h2
 rw[mm vs (o+p) fl w hb]
 refine hI.setRow hO (by omega) (by simp[iM];omega) fun j hj=>?_
 have hg:=nB vs fl (o+p) (o+j) (by omega)
 simp only[List.getElem?_toArray]
 rw[hg]
 have h9:=hc j hj
 by_cases Fx:p≤j∧j<p+vs.length
 ·rw[aJ (by omega)]
  rw[aJ Fx]at h9
  rw[show o+j-(o+p)=j-p by omega,←h9,ap hj]
 ·rw[aA (by omega)]
  rw[aA Fx]at h9
  have hjc:j<cs.length:=by
   rcases Nat.lt_or_ge j cs.length with h|h
   ·exact h
   ·rw[bY h,ap hj]at h9;cases h9
  have:=h3 j hjc
  simp only[List.getElem?_toArray]at this
  rw[this,←ap hjc,←h9,ap hj]
theorem Inv.JM {base w:World} {O:List Item} {i lU off cap:Nat} {T:TypeId} {zs ys Wo:List Int} (hI:Inv base O w) (hO:O[i]? =some (av (some ⟨lU,off,none⟩) cap T 1 (ints zs))) (hl:(ys++Wo).length=zs.length) (n:Nat):
  Inv base (O.set i (av (some ⟨lU,off,none⟩) cap T 1 (ints ys))) (putRow (Value.int .i64) (Sort.ahead w n) lU off (ys++Wo).toArray):=by
 have h:=hI.NI (ys:=ys++Wo) hO hl n #[]
 have e:Go.Sort.grow (putRow (Value.int .i64) (Sort.ahead w n) lU off (ys++Wo).toArray) #[]=putRow (Value.int .i64) (Sort.ahead w n) lU off (ys++Wo).toArray:=by
  simp[Go.Sort.grow];rfl
 rw[e]at h
 have gw:i<O.length:=(List.getElem?_eq_some_iff.1 hO).1
 have h2:(O.set i (av (some ⟨lU,off,none⟩) cap T 1 (ints (ys++Wo))))[i]? =some (av (some ⟨lU,off,none⟩) cap T 1 (ints (ys++Wo))):=by simp[gw]
 obtain⟨_,full,hb,h3,h4,h5⟩:=h.row h2
 have h6:=h.setRow h2 (Bn:=ints ys) (full:=full) (by simp at h3⊢;omega) h4 fun j hj=>by
  have sP:j<ys.length:=by simpa using hj
  have:=h5 j (by simp;omega)
  rw[this];simp[iy,sP]
 rw[List.set_set]at h6
 rwa[HT hb]at h6
theorem uC (xs:List Int) (x:Int) {i:Nat} (hi:i≤xs.length) (j:Nat):(ints (xs.take i++x::xs.drop i))[j]? =if j<i then(ints xs)[j]? else if j=i then some (.int .i64 x)else(ints xs)[j-1]? :=by
 rw[bi]
 by_cases c1:j<i
 ·rw[aJ c1,bE (by simp;omega),List.getElem?_take,aJ c1,bi]
 ·rw[aA c1,bM (by simp;omega)]
  simp only[cw,Nat.min_eq_left hi]
  by_cases c2:j=i
  ·subst c2;rw[aJ F,fL];rfl
  ·obtain⟨k,rfl⟩: ∃k,j=i+(k+1):=⟨j-i-1,by omega⟩
   rw[aA c2,show i+(k+1)-i=k+1 by omega,List.getElem?_cons_succ,List.getElem?_drop,bi,show i+(k+1)-1=i+k by omega]
abbrev Key:=List UInt8
theorem vv {α:Type} [DecidableEq α]: ∀ {l m:List α},l.Nodup→(∀x∈l,x∈m)→l.length≤m.length
 | [],_,_,_=>bl _
 |a::l,m,hn,h=>by
  rw[List.nodup_cons]at hn
  have ha:=h a (by simp)
  have:=vv (l:=l) (m:=m.erase a) hn.2 fun x hx=>(List.mem_erase_of_ne (fun e:x=a=>hn.1 (by rw[←e];exact hx))).2 (h x (by simp[hx]))
  rw[List.length_erase_of_mem ha]at this
  have:=List.length_pos_of_mem ha
  simp only[bG];omega
def HV (tr:Key→Nat→Key) (L:Nat) (start:Key) (C:List Key):Prop:=start∈C∧ ∀k∈C,∀x,x<L→tr k x∈C
def Ho (tr:Key→Nat→Key) (L:Nat) (start:Key) (B:Nat):Prop:= ∃C,HV tr L start C∧C.length≤B
structure DB (tr:Key→Nat→Key) (L:Nat) (start:Key) (ks:List Key):Prop where
 nodup:ks.Nodup
 st:ks[0]? =some start
 sub: ∀C,HV tr L start C→ ∀k∈ks,k∈C
theorem DB.one (tr:Key→Nat→Key) (L:Nat) (start:Key):DB tr L start [start]:=⟨by simp,F,fun C h k hk=>by simp at hk;subst hk;exact h.1⟩
theorem DB.pos {tr:Key→Nat→Key} {L:Nat} {start:Key} {ks:List Key} (h:DB tr L start ks):0<ks.length:=(List.getElem?_eq_some_iff.1 h.st).1
theorem DB.add {tr:Key→Nat→Key} {L:Nat} {start:Key} {ks:List Key} (h:DB tr L start ks) {k:Key} (hk:k∈ks) {x:Nat} (hx:x<L):DB tr L start (add ks (tr k x)):=
 ⟨nr h.nodup,by obtain⟨t,ht⟩:=jY ks (tr k x);rw[←ht,bE h.pos];exact h.st,fun C hC y hy=>(rY.1 hy).elim (h.sub C hC y) fun e=>e▸hC.2 k (h.sub C hC k hk) x hx⟩
theorem DB.Zc {tr:Key→Nat→Key} {L:Nat} {start:Key} {ks:List Key} (h:DB tr L start ks) {B:Nat} (hB:B<ks.length): ¬Ho tr L start B:=fun⟨C,hC,hl⟩=>by
 have:=vv h.nodup (fun k hk=>h.sub C hC k hk)
 omega
theorem Hp {ks:List Key} {k:Key} (h:k∉ks):add ks k=ks++[k]:=by unfold add;rw[aA h]
theorem Hq {ks:List Key} {k:Key} (h:k∈ks):add ks k=ks:=by unfold add;rw[aJ h]
theorem DH {tr:Key→Nat→Key} {L:Nat} {start:Key} {ks:List Key} {rs:List (List Int)} (h:DB tr L start ks) (hE:qW tr L ks ks.length rs) {B:Nat} (hB:ks.length≤B):Ho tr L start B:=
 ⟨ks,⟨bJ h.st,fun k hk x hx=>by
  obtain⟨i,hi,rfl⟩:=List.getElem_of_mem hk
  have:=hE.mem i hi x hx
  rwa[show ks.getD i []=ks[i] by simp[hi]]at this⟩,hB⟩
def Kx (v:Nat) (rs:List (List Int)) (fs:List Bool):cV:=⟨(v:Int),0,rs,fs⟩
section
variable {tr:Key→Nat→Key} {fin:Key→Bool} {v:Nat} {start:Key} {ks:List Key} {rs:List (List Int)}
theorem Gr (hv:v≤6) (hp:0<ks.length) (hE:qW tr (2^v) ks ks.length rs) (hn:ks.length≤4096):Valid (Kx v rs (ks.map fin)):=by
 refine⟨⟨by simp[Kx],by simp[Kx];omega,by show 0<rs.length;rw[hE.len];exact hp,by show(ks.map fin).length=rs.length;rw[hE.len,ar],Int.le_refl _,by show(0:Int)<(rs.length:Int);rw[hE.len];omega,fun r hr=>?_,fun r hr x hx=>?_⟩,by show rs.length≤4096;rw[hE.len];exact hn⟩
 ·obtain⟨i,hi,rfl⟩:=List.getElem_of_mem (show r∈rs from hr)
  have IW:i<ks.length:=by have:i<rs.length:=hi;rw[hE.len]at this;exact this
  have h9:=hE.row i IW
  rw[ap hi]at h9
  rw[db h9];simp[lE,Kx]
 ·obtain⟨i,hi,rfl⟩:=List.getElem_of_mem (show r∈rs from hr)
  have IW:i<ks.length:=by have:i<rs.length:=hi;rw[hE.len]at this;exact this
  have h9:=hE.row i IW
  rw[ap hi]at h9
  rw[db h9]at hx
  simp only[lE,iF,e_]at hx
  obtain⟨y,hy,rfl⟩:=hx
  have:=sr (hE.mem i IW y hy)
  exact⟨by omega,by show _<(rs.length:Int);rw[hE.len];omega⟩
theorem HW (hE:qW tr (2^v) ks ks.length rs): ∀(w:List Nat) (k:Key),iv (v:Int) w→k∈ks→runN (Kx v rs (ks.map fin)) (ix k ks) w=ix (w.foldl tr k) ks∧w.foldl tr k∈ks
 | [],k,_,hk=>⟨F,hk⟩
 |x::w,k,hw,hk=>by
  have hx:x<2^v:=by have:=hw x (by simp);simpa using this
  have hi:=sr hk
  have hg:ks.getD (ix k ks) []=k:=by rw[az,pY hk];rfl
  have hm:tr k x∈ks:=by have:=hE.mem _ hi x hx;rwa[hg]at this
  have ht:eS (Kx v rs (ks.map fin)) (ix k ks) x=ix (tr k x) ks:=by
   have h9:=hE.row _ hi
   unfold eS Kx
   simp only[az,h9,Option.getD_some,lE,bi,List.getElem?_range hx,Option.map_some]
   rw[←az,hg];simp
  have:=HW hE w (tr k x) (fun y hy=>hw y (by simp[hy])) hm
  unfold runN at this⊢
  rw[cP,ht,cP]
  exact this
theorem Em (hv:v≤6) (zL:ks[0]? =some start) (hE:qW tr (2^v) ks ks.length rs) (hn:ks.length≤4096):HasL (v:Int) ks.length (Kx v rs (ks.map fin)) (fun w=>fin (w.foldl tr start)):=by
 refine⟨Gr hv (List.getElem?_eq_some_iff.1 zL).1 hE hn,by show rs.length≤_;rw[hE.len];exact aS _,F,fun w hw=>?_⟩
 have hs:start∈ks:=bJ zL
 have h0:ix start ks=0:=by
  cases ks with
  |nil=>simp at hs
  |cons k l=>have:=zL;simp at this;subst this;simp[ix]
 obtain⟨h1,h2⟩:=HW (fin:=fin) hE w start hw hs
 rw[h0]at h1
 unfold iH dF
 show List.getD (ks.map fin) (runN (Kx v rs (ks.map fin)) 0 w) false=_
 rw[h1,az,bi,pY h2];rfl
theorem Hs (hv:v≤6) (h:DB tr (2^v) start ks) (hE:qW tr (2^v) ks ks.length rs) (hn:ks.length≤4096):HasL (v:Int) ks.length (Kx v rs (ks.map fin)) (fun w=>fin (w.foldl tr start)):=Em hv h.st hE hn
theorem HH (hv:v≤6) {B:Nat} (hB:B≤4096) (h:Ho tr (2^v) start B): ∃M,fQ (v:Int) B M (fun w=>fin (w.foldl tr start)):=by
 obtain⟨C,⟨h1,h2⟩,h3⟩:=h
 obtain⟨D,hD⟩: ∃D,D=start::C.filter (fun k=>decide (k≠start)):=⟨_,F⟩
 have hm: ∀k,k∈D↔k∈C:=fun k=>by
  rw[hD]
  by_cases e:k=start
  ·subst e;simp[h1]
  ·simp[e]
 have hl:D.length≤B:=by
  have hf:(C.filter (fun k=>decide (k≠start))).length<C.length:=by
   have:=List.length_filter_lt_length_iff_exists (p:=fun k=>decide (k≠start)) (l:=C)
   exact this.2 ⟨start,h1,by simp⟩
  rw[hD,bG];omega
 have hE:qW tr (2^v) D D.length ((List.range D.length).map (lE tr (2^v) D)):=by
  refine⟨by simp,aS _,fun i hi=>by rw[bi,List.getElem?_range hi];rfl,fun i hi y hy=>?_⟩
  rw[hm]
  refine h2 _ ?_ y hy
  rw[←hm,az,ap hi]
  exact aN hi
 have h4:=Em (fin:=fin) hv (show D[0]? =some start by rw[hD];rfl) hE (by omega)
 have h5:=HasL.p9 h4
 exact⟨_,⟨h5.valid,bo h5.len hl,h5.vars,h5.iH⟩,h5.min⟩
end
structure SR where
 a:Value
 b:Value
 lx:List Item
abbrev c1 (r:SR):List Value:=[r.a]
abbrev c2 (r:SR):List Value:=[r.a,r.b]
def eT (f:SR→List Value) (qs:List SR):List Value:=qs.flatMap f
def jC (qs:List SR):List Item:=qs.flatMap SR.lx
theorem wj (f:SR→List Value) (qs:List SR) (r:SR):eT f (qs++[r])=eT f qs++f r:=by simp[eT]
theorem AJ (qs:List SR) (r:SR):jC (qs++[r])=jC qs++r.lx:=by simp[jC]
theorem kT {f:SR→List Value} {n:Nat} (h: ∀r,(f r).length=n): ∀(qs:List SR),(eT f qs).length=qs.length*n
 | []=>by simp[eT]
 |r::qs=>by
  have:=kT h qs
  have h0:=h r
  simp only[eT,List.flatMap_cons,aP,bG]at this⊢
  rw[this,h0,Nat.succ_mul];omega
theorem tg {f:SR→List Value} {n:Nat} (h: ∀r,(f r).length=n): ∀ {qs:List SR} {i j:Nat} (hi:i<qs.length),j<n→(eT f qs)[i*n+j]? =(f qs[i])[j]?
 |r::qs,0,j,_,hj=>by
  have h0:=h r
  simp only[eT,List.flatMap_cons,Nat.zero_mul,Nat.zero_add,List.getElem_cons_zero]
  rw[bE (by omega)]
 |r::qs,i+1,j,hi,hj=>by
  have h0:=h r
  have ih:=tg h (qs:=qs) (i:=i) (j:=j) (by simpa using hi) hj
  simp only[eT,List.flatMap_cons,List.getElem_cons_succ]at ih⊢
  rw[bM (by rw[h0,Nat.succ_mul];omega),h0,show(i+1)*n+j-n=i*n+j by rw[Nat.succ_mul];omega]
  exact ih
theorem uq {qs:List SR} {i:Nat} (hi:i<qs.length) {it:Item} (h:it∈qs[i].lx):it∈jC qs:=List.mem_flatMap.2 ⟨_,aN hi,h⟩
theorem SA {qs:List SR} {i:Nat} (hi:i<qs.length): ∀j (h:j< [qs[i].a,qs[i].b].length),(eT c2 qs)[i*2+j]? =some [qs[i].a,qs[i].b][j]:=fun j hj=>by
 rw[tg (f:=c2) (fun _=>rfl) hi (by simpa using hj)];exact ap hj
theorem SB {qs:List SR} {i:Nat} (hi:i<qs.length):(eT c1 qs)[i]? =some qs[i].a:=by
 have:=tg (f:=c1) (n:=1) (fun _=>rfl) (j:=0) hi (by omega)
 simpa using this
def Mg (Rp:Key→SR→Prop) (ks:List Key) (qs:List SR):Prop:=qs.length=ks.length∧ ∀i (h:i<qs.length),Rp (ks.getD i []) qs[i]
theorem Mg.one {Rp:Key→SR→Prop} {k:Key} {r:SR} (h:Rp k r):Mg Rp [k] [r]:=⟨F,fun i hi=>by simp at hi;subst hi;exact h⟩
theorem Mg.snoc {Rp:Key→SR→Prop} {ks:List Key} {qs:List SR} {k:Key} {r:SR} (h:Mg Rp ks qs) (hr:Rp k r):Mg Rp (ks++[k]) (qs++[r]):=by
 refine⟨by simp[h.1],fun i hi=>?_⟩
 rcases Nat.lt_or_ge i qs.length with c|c
 ·have:=h.2 i c
  rw[iy c,az,bE (by rw[←h.1];exact c),←az]
  exact this
 ·simp only[aP,bG,dl]at hi
  have e:i=qs.length:=by omega
  subst e
  rw[List.getElem_append_right (aS _),az,bM (by rw[h.1];exact aS _)]
  simpa[h.1]using hr
theorem yj (A B Y Z X:List Item) (h:Sub A B):Sub (A++(Y++(Z++X))) (B++(X++(Y++Z))):=by
 obtain⟨l,h1,h2⟩:=h
 refine⟨l++(X++(Y++Z)),h1.append ?_,h2.append (aY _)⟩
 rw[←a6 Y Z X]
 exact List.perm_append_comm
theorem wk (A B Y Z:List Item) (h:Sub A B):Sub (A++Y) (B++(Y++Z)):=by
 obtain⟨l,h1,h2⟩:=h
 exact⟨l++Y,h1.append_right Y,h2.append (List.sublist_append_left Y Z)⟩
theorem qX (A B X Y:List Item) (c:Item) (h:Sub (A++[c]) B):Sub (A++((X++[c])++Y)) (B++(X++Y)):=by
 obtain⟨l,h1,h2⟩:=h
 refine⟨l++(X++Y),?_,h2.append (aY _)⟩
 refine List.Perm.trans ?_ (h1.append_right (X++Y))
 rw[a6 X,a6 A]
 exact List.Perm.append_left A ((List.perm_append_comm_assoc X [c] Y))
theorem fB (A B X Y:List Item) (h:Sub A B):Sub (A++Y) (B++(X++Y)):=by
 obtain⟨l,h1,h2⟩:=h
 exact⟨l++Y,h1.append_right Y,h2.append (List.sublist_append_right X Y)⟩
def ng (n:Int):Prop:=n= -1∨(0≤n∧n<1000000000000)
def kQ (n:Int):List UInt8:=if n= -1 then[45,49]else Lib.decDigits n.toNat
def iU (l:List Int):List UInt8:=l.flatMap fun n=>kQ n++[32]
theorem HK:iU []=[]:=rfl
theorem ph (n:Int) (l:List Int):iU (n::l)=kQ n++32::iU l:=by simp[iU]
theorem sU (l m:List Int):iU (l++m)=iU l++iU m:=by simp[iU]
theorem Dx {l:List Int} {i:Nat} (h:i<l.length):iU (l.take (i+1))=iU (l.take i)++kQ l[i]++[32]:=by
 rw[aH h,sU,ph];simp[iU]
theorem qS {n:Int} (h:ng n):(kQ n).length≤12:=by
 unfold kQ
 split
 ·decide
 ·rcases h with h|⟨h0,h1⟩
  ·contradiction
  ·exact tV 11 _ (by omega)
theorem pS: ∀ {l:List Int},(∀n∈l,ng n)→(iU l).length≤13*l.length
 | [],_=>by simp[iU]
 |n::l,h=>by
  have h1:=qS (h n (by simp));have h2:=pS (l:=l) fun x hx=>h x (by simp[hx])
  rw[ph];simp only[aP,bG];omega
theorem rV (n:Int): ∀b∈kQ n,b.toNat=45∨(48≤b.toNat∧b.toNat<58):=by
 unfold kQ
 split
 ·intro b hb;simp at hb;rcases hb with rfl|rfl<;>decide
 ·exact fun b hb=>.inr (rJ _ b hb)
theorem ND {a b:Int} (ha:ng a) (hb:ng b) (h:kQ a=kQ b):a=b:=by
 unfold kQ at h
 by_cases h1:a= -1<;>by_cases h2:b= -1
 ·rw[h1,h2]
 ·rw[aJ h1,aA h2]at h
  have:=rJ b.toNat 45 (h▸by simp);simp at this
 ·rw[aA h1,aJ h2]at h
  have:=rJ a.toNat 45 (h▸by simp);simp at this
 ·rw[aA h1,aA h2]at h
  have:=pN _ _ h
  rcases ha with ha|ha<;>rcases hb with hb|hb<;>first|contradiction|omega
theorem yE: ∀ {x y p q:List UInt8},(∀b∈x,b≠32)→(∀b∈y,b≠32)→x++32::p=y++32::q→x=y∧p=q
 | [],[],p,q,_,_,h=>⟨F,by simpa using h⟩
 | [],c::y,p,q,_,hy,h=>by simp only[du,cF,List.cons.injEq]at h;exact absurd h.1.symm (hy c (by simp))
 |c::x,[],p,q,hx,_,h=>by simp only[du,cF,List.cons.injEq]at h;exact absurd h.1 (hx c (by simp))
 |c::x,c'::y,p,q,hx,hy,h=>by
  simp only[cF,List.cons.injEq]at h
  obtain⟨h1,h2⟩:=yE (fun b hb=>hx b (by simp[hb])) (fun b hb=>hy b (by simp[hb])) h.2
  exact⟨by rw[h.1,h1],h2⟩
theorem HL (n:Int): ∀b∈kQ n,b≠32:=fun b hb e=>by subst e;have:=rV n 32 hb;simp at this
theorem Cd: ∀ {l m:List Int} {p q:List UInt8},(∀n∈l,ng n)→(∀n∈m,ng n)→(∀b t,p=b::t→b.toNat=124)→(∀b t,q=b::t→b.toNat=124)→iU l++p=iU m++q→l=m∧p=q
 | [],[],p,q,_,_,_,_,h=>⟨F,by simpa[iU]using h⟩
 | [],n::m,p,q,_,_,hp,_,h=>by
  rw[ph,HK,du]at h
  cases hd:kQ n with
  |nil=>rw[hd]at h;have:=hp 32 _ (by simpa using h);simp at this
  |cons c r=>
   rw[hd]at h
   have h1:=hp c _ (by simpa using h);have h2:=rV n c (by simp[hd]);omega
 |n::l,[],p,q,_,_,_,hq,h=>by
  rw[ph,HK,du]at h
  cases hd:kQ n with
  |nil=>rw[hd]at h;have:=hq 32 _ (by simpa using h.symm);simp at this
  |cons c r=>
   rw[hd]at h
   have h1:=hq c _ (by simpa using h.symm);have h2:=rV n c (by simp[hd]);omega
 |n::l,n'::m,p,q,hl,hm,hp,hq,h=>by
  rw[ph,ph,a6,a6,cF,cF]at h
  obtain⟨h1,h2⟩:=yE (HL n) (HL n') h
  obtain⟨h3,h4⟩:=Cd (fun x hx=>hl x (by simp[hx])) (fun x hx=>hm x (by simp[hx])) hp hq h2
  exact⟨by rw[ND (hl n (by simp)) (hm n' (by simp)) h1,h3],h4⟩
theorem yF {l m:List Int} (hl: ∀n∈l,ng n) (hm: ∀n∈m,ng n) (h:iU l=iU m):l=m:=
 (Cd (p:=[]) (q:=[]) hl hm (by simp) (by simp) (by simpa using h)).1
theorem rW: ∀ {l m:List Nat},l.map (fun y:Nat=>(y:Int))=m.map (fun y:Nat=>(y:Int))→l=m
 | [],[],_=>rfl
 | [],_::_,h=>by simp at h
 |_::_,[],h=>by simp at h
 |x::l,y::m,h=>by
  simp only[cD,List.cons.injEq]at h
  rw[rW h.2,show x=y by omega]
section
variable {α:Type} [Nonempty α] (G:α→Prop) (kf:α→Key) (nx:α→Nat→α) (fn:α→Bool)
noncomputable def BP (k:Key) (x:Nat):Key:=kf (nx (Classical.epsilon fun a=>G a∧kf a=k) x)
noncomputable def Js (k:Key):Bool:=fn (Classical.epsilon fun a=>G a∧kf a=k)
structure Q2 (L:Nat):Prop where
 Pb: ∀a b x,G a→G b→kf a=kf b→x<L→kf (nx a x)=kf (nx b x)
 hfn: ∀a b,G a→G b→kf a=kf b→fn a=fn b
 ZZ: ∀a x,G a→x<L→G (nx a x)
variable {G kf nx fn}
theorem sV {L:Nat} (h:Q2 G kf nx fn L) {a:α} (ha:G a) {x:Nat} (hx:x<L):BP G kf nx (kf a) x=kf (nx a x):=by
 have:=Classical.epsilon_spec (p:=fun b=>G b∧kf b=kf a) ⟨a,ha,F⟩
 exact h.Pb _ _ x this.1 ha this.2 hx
theorem BQ {L:Nat} (h:Q2 G kf nx fn L) {a:α} (ha:G a):Js G kf fn (kf a)=fn a:=by
 have:=Classical.epsilon_spec (p:=fun b=>G b∧kf b=kf a) ⟨a,ha,F⟩
 exact h.hfn _ _ this.1 ha this.2
theorem HM {L:Nat} (h:Q2 G kf nx fn L): ∀(u:List Nat) {a:α},G a→(∀x∈u,x<L)→u.foldl (BP G kf nx) (kf a)=kf (u.foldl nx a)∧G (u.foldl nx a)
 | [],a,ha,_=>⟨F,ha⟩
 |x::u,a,ha,hu=>by
  have hx:=hu x (by simp)
  rw[cP,sV h ha hx]
  exact HM h u (h.ZZ a x ha hx) fun y hy=>hu y (by simp[hy])
theorem Cb {L:Nat} (h:Q2 G kf nx fn L) {a:α} (ha:G a) {u:List Nat} (hu: ∀x∈u,x<L):Js G kf fn (u.foldl (BP G kf nx) (kf a))=fn (u.foldl nx a):=by
 obtain⟨h1,h2⟩:=HM h u ha hu
 rw[h1,BQ h h2]
end
abbrev Lg:=List Nat→Bool
def iA (p q:Lg):Lg:=fun w=>(List.range (w.length+1)).any fun i=>p (w.take i)&&q (w.drop i)
def yG (p:Lg):Nat→Lg
 |0,w=>w.isEmpty
 |n+1,w=>w.isEmpty||(List.range w.length).any fun i=>p (w.take (i+1))&&yG p n (w.drop (i+1))
def qQ (p:Lg):Lg:=fun w=>yG p w.length w
theorem gN {p q:Lg} {w:List Nat}:iA p q w=true↔ ∃x y,w=x++y∧p x=true∧q y=true:=by
 unfold iA
 simp only[cY,e_,ay]
 constructor
 ·rintro⟨i,_,h1,h2⟩;exact⟨_,_,(List.take_append_drop i w).symm,h1,h2⟩
 ·rintro⟨x,y,rfl,h1,h2⟩;exact⟨x.length,by simp;omega,by simpa using h1,by simpa using h2⟩
inductive iJ (p:Lg):List Nat→Prop
 |nil:iJ p []
 |sJ {x y:List Nat}:p x=true→iJ p y→iJ p (x++y)
theorem iJ.snoc {p:Lg} {x y:List Nat} (h:iJ p x) (hy:p y=true):iJ p (x++y):=by
 induction h with
 |nil=>simpa using iJ.sJ hy .nil
 |sJ h1 _ ih=>rw[a6];exact .sJ h1 ih
theorem iJ.last {p:Lg} {w:List Nat} (h:iJ p w):w≠ []→ ∃x y,w=x++y∧iJ p x∧p y=true∧y≠ []:=by
 induction h with
 |nil=>exact fun h=>absurd F h
 | @sJ x y h1 h2 ih=>
  intro hw
  by_cases hy:y=[]
  ·subst hy
   refine⟨[],x,by simp,.nil,h1,?_⟩
   rintro rfl;exact hw F
  ·obtain⟨a,b,e,h3,h4,h5⟩:=ih hy
   exact⟨x++a,b,by rw[e,a6],.sJ h1 h3,h4,h5⟩
theorem vu {p:Lg}: ∀(n:Nat) (w:List Nat),w.length≤n→(yG p n w=true↔iJ p w)
 |0,w,h=>by
  have:w=[]:=List.length_eq_zero_iff.1 (by omega)
  subst this;simp[yG,iJ.nil]
 |n+1,w,h=>by
  unfold yG
  simp only[Bool.or_eq_true,List.isEmpty_iff,cY,e_,ay]
  constructor
  ·rintro(rfl|⟨i,hi,h1,h2⟩)
   ·exact .nil
   ·rw[←List.take_append_drop (i+1) w]
    exact .sJ h1 ((vu n _ (by simp;omega)).1 h2)
  ·intro hs
   have key: ∀w,iJ p w→w≠ []→ ∃x y,w=x++y∧x≠ []∧p x=true∧iJ p y:=by
    intro w hw
    induction hw with
    |nil=>exact fun h=>absurd F h
    | @sJ x y h1 h2 ih=>
     intro pL
     by_cases hx:x=[]
     ·subst hx;exact ih pL
     ·exact⟨x,y,F,hx,h1,h2⟩
   by_cases hw:w=[]
   ·exact .inl hw
   ·obtain⟨x,y,rfl,hx,h1,h2⟩:=key w hs hw
    have Ft:=List.length_pos_iff.2 hx
    refine .inr ⟨x.length-1,by simp;omega,?_,?_⟩
    ·rw[show x.length-1+1=x.length by omega];simpa using h1
    ·rw[show x.length-1+1=x.length by omega]
     simpa using(vu n y (by simp at h;omega)).2 h2
theorem rO {p:Lg} {w:List Nat}:qQ p w=true↔iJ p w:=vu _ _ (aS _)
section
variable (a b:cV)
def wl (s:Nat) (l:List Nat):List Nat:=if dF a s then BK b.next.length l b.start.toNat else l
def Ky (q:Nat×List Nat) (x:Nat):Nat×List Nat:=(eS a q.1 x,wl a b (eS a q.1 x) (ga b q.2 x))
def QC:Nat×List Nat:=(a.start.toNat,wl a b a.start.toNat [])
def UL (q:Nat×List Nat):Bool:=q.2.any (dF b)
def AK (q:Nat×List Nat):Key:=iU ((q.1:Int)::q.2.map fun y:Nat=>(y:Int))
structure GC (q:Nat×List Nat):Prop where
 s:q.1<a.next.length
 UO:q.2.Pairwise (· < ·)
 lt: ∀t∈q.2,t<b.next.length
abbrev BS (L B:Nat):Prop:=Ho (BP (GC a b) AK (Ky a b)) L (AK (QC a b)) B
variable {a b}
theorem nO {n:Nat} (h:n<1000000):ng (n:Int):=.inr ⟨by omega,by omega⟩
theorem HN (hn:a.next.length≤4096) (hm:b.next.length≤4096) {q:Nat×List Nat} (h:GC a b q): ∀n∈((q.1:Int)::q.2.map fun y:Nat=>(y:Int)),ng n:=fun n hn=>by
 rcases List.mem_cons.1 hn with rfl|hn
 ·exact nO (by have:=h.s;omega)
 ·obtain⟨y,hy,rfl⟩:=List.mem_map.1 hn
  exact nO (by have:=h.lt y hy;omega)
theorem HO (hn:a.next.length≤4096) (hm:b.next.length≤4096) {q r:Nat×List Nat} (hq:GC a b q) (hr:GC a b r) (h:AK q=AK r):q=r:=by
 have:=yF (HN hn hm hq) (HN hn hm hr) h
 simp only[List.cons.injEq]at this
 have h2:q.2=r.2:=rW this.2
 exact Prod.ext (by omega) h2
theorem NF (hb:Val b) {s:Nat} {l:List Nat} (ha:l.Pairwise (· < ·)) (hl: ∀t∈l,t<b.next.length):(wl a b s l).Pairwise (· < ·)∧ ∀t∈wl a b s l,t<b.next.length:=by
 unfold wl
 split
 ·exact⟨pj _ _,fun t ht=>(rm.1 ht).1⟩
 ·exact⟨ha,hl⟩
theorem nP (d:cV) (l:List Nat) (x:Nat):(ga d l x).Pairwise (· < ·)∧ ∀t∈ga d l x,t<d.next.length:=⟨pj _ _,fun t ht=>(rm.1 ht).1⟩
theorem HP (hb:Val b) {s:Nat} {l:List Nat} (hl: ∀t∈l,t<b.next.length) {t:Nat}:t∈wl a b s l↔t∈l∨(dF a s=true∧t=b.start.toNat):=by
 unfold wl
 split
 ·rename_i h;rw[xm hl (ei hb)];simp[h]
 ·rename_i h;simp[h]
theorem GC.len {q:Nat×List Nat} (h:GC a b q) (hn:b.next.length≤4096):q.2.length≤4096:=bo (eX (h.UO.imp fun h=>Nat.ne_of_lt h) h.lt) hn
theorem GC.start (ha:Val a) (hb:Val b):GC a b (QC a b):=by
 have:=NF (a:=a) (s:=a.start.toNat) hb (l:=[]) List.Pairwise.nil (by simp)
 exact⟨ei ha,this.1,this.2⟩
theorem GC.next (ha:Val a) (hb:Val b) {q:Nat×List Nat} (h:GC a b q) {x:Nat} (hx:x<ez a):GC a b (Ky a b q x):=by
 have h2:=nP b q.2 x
 have:=NF (a:=a) (s:=eS a q.1 x) hb h2.1 h2.2
 exact⟨(ha.gT h.s hx).1,this.1,this.2⟩
theorem Hv (ha:Valid a) (hb:Valid b):Q2 (GC a b) AK (Ky a b) (UL b) (ez a):=
 ⟨fun q r x hq hr h _=>by rw[HO ha.n4 hb.n4 hq hr h],fun q r hq hr h=>by rw[HO ha.n4 hb.n4 hq hr h],fun q x h hx=>h.next ha.toVal hb.toVal hx⟩
theorem yH {α:Type} {p:List α→Prop} (h0:p []) (h1: ∀u x,p u→p (u++[x])): ∀u,p u:=fun u=>by
 have: ∀n (u:List α),u.length=n→p u:=by
  intro n
  induction n with
  |zero=>exact fun u hu=>(List.length_eq_zero_iff.1 hu)▸h0
  |succ n ih=>
   intro u hu
   have pL:u≠ []:=by rintro rfl;simp at hu
   rw[←List.dropLast_concat_getLast pL]
   exact h1 _ _ (ih _ (by simp[hu]))
 exact this _ u F
theorem Q3 (ha:Val a) (hb:Val b) (hv:a.vars=b.vars): ∀(u:List Nat),(∀x∈u,x<ez a)→(u.foldl (Ky a b) (QC a b)).1=runN a a.start.toNat u∧ ∀t,t∈(u.foldl (Ky a b) (QC a b)).2↔ ∃x y,u=x++y∧iH a x=true∧runN b b.start.toNat y=t:=by
 have adt:ez b=ez a:=by unfold ez;rw[hv]
 apply yH
 ·intro _
  refine⟨F,fun t=>?_⟩
  show t∈wl a b a.start.toNat []↔_
  rw[HP hb (by simp)]
  constructor
  ·rintro(h|⟨h,rfl⟩)
   ·cases h
   ·exact⟨[],[],F,h,F⟩
  ·rintro⟨x,y,e,h,rfl⟩
   obtain⟨rfl,rfl⟩:=List.append_eq_nil_iff.1 e.symm
   exact .inr ⟨h,F⟩
 ·intro u z ih hu
  have Pf: ∀x∈u,x<ez a:=fun x hx=>hu x (by simp[hx])
  have hz:z<ez a:=hu z (by simp)
  obtain⟨h1,h2⟩:=ih Pf
  rw[cO,cP,List.foldl_nil]
  have hG:GC a b (u.foldl (Ky a b) (QC a b)):=by
   have: ∀(u:List Nat) (q:Nat×List Nat),GC a b q→(∀x∈u,x<ez a)→GC a b (u.foldl (Ky a b) q):=by
    intro u
    induction u with
    |nil=>exact fun q h _=>h
    |cons x u ih=>exact fun q h hx=>ih _ (h.next ha hb (hx x (by simp))) fun y hy=>hx y (by simp[hy])
   exact this u _ (.start ha hb) Pf
  refine⟨by rw[eQ,←h1];rfl,fun t=>?_⟩
  show t∈wl a b (eS a (u.foldl (Ky a b) (QC a b)).1 z) (ga b (u.foldl (Ky a b) (QC a b)).2 z)↔_
  rw[HP hb (nP b _ z).2,rX hb hG.lt (by have:=hz;rw[←adt]at this;exact this),h1,←eQ]
  constructor
  ·rintro(⟨s,hs,rfl⟩|⟨h,rfl⟩)
   ·obtain⟨x,y,rfl,hx,rfl⟩:=(h2 s).1 hs
    exact⟨x,y++[z],by rw[a6],hx,eQ _ _ _ _⟩
   ·exact⟨u++[z],[],by simp,h,F⟩
  ·rintro⟨x,y,e,hx,rfl⟩
   by_cases hy:y=[]
   ·subst hy
    simp only[c_]at e;subst e
    exact .inr ⟨hx,F⟩
   ·have e2:=List.dropLast_concat_getLast hy
    rw[←e2,←a6]at e
    obtain⟨e3,e4⟩:=List.append_inj' e F
    simp only[List.cons.injEq,and_true]at e4
    refine .inl ⟨runN b b.start.toNat y.dropLast,(h2 _).2 ⟨x,y.dropLast,e3,hx,F⟩,?_⟩
    rw[e4,←eQ,e2]
theorem DL (ha:Valid a) (hb:Valid b) (hv:a.vars=b.vars) {u:List Nat} (hu: ∀x∈u,x<ez a):Js (GC a b) AK (UL b) (u.foldl (BP (GC a b) AK (Ky a b)) (AK (QC a b)))=iA (iH a) (iH b) u:=by
 rw[Cb (Hv ha hb) (.start ha.toVal hb.toVal) hu]
 obtain⟨_,h2⟩:=Q3 ha.toVal hb.toVal hv u hu
 rw[dB,gN]
 unfold UL
 rw[cY]
 constructor
 ·rintro⟨t,ht,hf⟩
  obtain⟨x,y,rfl,hx,rfl⟩:=(h2 t).1 ht
  exact⟨x,y,F,hx,hf⟩
 ·rintro⟨x,y,rfl,hx,hf⟩
  exact⟨_,(h2 _).2 ⟨x,y,F,hx,F⟩,hf⟩
end
section
variable (a:cV)
def ur (q:Bool×List Nat) (x:Nat):Bool×List Nat:=(false,if(ga a q.2 x).any (dF a)then BK a.next.length (ga a q.2 x) a.start.toNat else ga a q.2 x)
def FY:Bool×List Nat:=(true,[a.start.toNat])
def QG (q:Bool×List Nat):Bool:=q.1||q.2.any (dF a)
def jH (q:Bool×List Nat):List Int:=if q.1 then-1::q.2.map (fun y:Nat=>(y:Int))else q.2.map (fun y:Nat=>(y:Int))
def Cy (q:Bool×List Nat):Key:=iU (jH q)
structure GS (q:Bool×List Nat):Prop where
 UO:q.2.Pairwise (· < ·)
 lt: ∀t∈q.2,t<a.next.length
abbrev FX (L B:Nat):Prop:=Ho (BP (GS a) Cy (ur a)) L (Cy (FY a)) B
variable {a}
theorem yn (hn:a.next.length≤4096) {q:Bool×List Nat} (h:GS a q): ∀n∈jH q,ng n:=fun n hn=>by
 have h2: ∀n∈q.2.map (fun y:Nat=>(y:Int)),ng n:=fun n hn=>by
  obtain⟨y,hy,rfl⟩:=List.mem_map.1 hn
  exact nO (by have:=h.lt y hy;omega)
 unfold jH at hn
 split at hn
 ·rcases List.mem_cons.1 hn with rfl|hn
  ·exact .inl F
  ·exact h2 n hn
 ·exact h2 n hn
theorem HQ (hn:a.next.length≤4096) {q r:Bool×List Nat} (hq:GS a q) (hr:GS a r) (h:Cy q=Cy r):q=r:=by
 have:=yF (yn hn hq) (yn hn hr) h
 obtain⟨f,l⟩:=q
 obtain⟨g,m⟩:=r
 unfold jH at this
 have hi: ∀ {l m:List Nat},l.map (fun y:Nat=>(y:Int))=m.map (fun y:Nat=>(y:Int))→l=m:=fun h=>rW h
 cases f<;>cases g<;>simp only[if_true,Bool.false_eq_true,if_false,List.cons.injEq,true_and]at this
 ·rw[hi this]
 ·cases l with
  |nil=>simp at this
  |cons y l=>simp only[cD,List.cons.injEq]at this;omega
 ·cases m with
  |nil=>simp at this
  |cons y l=>simp only[cD,List.cons.injEq]at this;omega
 ·rw[hi this]
theorem GS.start (ha:Val a):GS a (FY a):=⟨by simp[FY],fun t ht=>by simp[FY]at ht;subst ht;exact ei ha⟩
theorem GS.next {q:Bool×List Nat} (x:Nat):GS a (ur a q x):=by
 unfold ur
 refine⟨?_,?_⟩<;>dsimp only<;>split
 ·exact pj _ _
 ·exact(nP a _ x).1
 ·exact fun t ht=>(rm.1 ht).1
 ·exact(nP a _ x).2
theorem BT (ha:Valid a):Q2 (GS a) Cy (ur a) (QG a) (ez a):=
 ⟨fun q r x hq hr h _=>by rw[HQ ha.n4 hq hr h],fun q r hq hr h=>by rw[HQ ha.n4 hq hr h],fun q x h hx=>GS.next x⟩
theorem NG (ha:Val a): ∀(u:List Nat),(∀x∈u,x<ez a)→((u.foldl (ur a) (FY a)).1=u.isEmpty)∧ ∀t,t∈(u.foldl (ur a) (FY a)).2↔ ∃x y,u=x++y∧iJ (iH a) x∧runN a a.start.toNat y=t:=by
 apply yH
 ·intro _
  refine⟨F,fun t=>?_⟩
  show t∈[a.start.toNat]↔_
  rw[da]
  constructor
  ·rintro rfl;exact⟨[],[],F,.nil,F⟩
  ·rintro⟨x,y,e,h,rfl⟩
   obtain⟨rfl,rfl⟩:=List.append_eq_nil_iff.1 e.symm
   rfl
 ·intro u z ih hu
  have Pf: ∀x∈u,x<ez a:=fun x hx=>hu x (by simp[hx])
  have hz:z<ez a:=hu z (by simp)
  obtain⟨_,h2⟩:=ih Pf
  have hG:GS a (u.foldl (ur a) (FY a)):=by
   have: ∀(u:List Nat) (q:Bool×List Nat),GS a q→GS a (u.foldl (ur a) q):=by
    intro u
    induction u with
    |nil=>exact fun q h=>h
    |cons x u ih=>exact fun q h=>ih _ (GS.next x)
   exact this u _ (.start ha)
  rw[cO,cP,List.foldl_nil]
  refine⟨by simp[ur],fun t=>?_⟩
  have hm: ∀t,t∈ga a (u.foldl (ur a) (FY a)).2 z↔ ∃x y,u=x++y∧iJ (iH a) x∧runN a a.start.toNat (y++[z])=t:=fun t=>by
   rw[rX ha hG.lt hz]
   constructor
   ·rintro⟨s,hs,rfl⟩
    obtain⟨x,y,e,hx,rfl⟩:=(h2 s).1 hs
    exact⟨x,y,e,hx,eQ _ _ _ _⟩
   ·rintro⟨x,y,e,hx,rfl⟩
    exact⟨_,(h2 _).2 ⟨x,y,e,hx,F⟩,(eQ _ _ _ _).symm⟩
  have lN:(ga a (u.foldl (ur a) (FY a)).2 z).any (dF a)=true↔iJ (iH a) (u++[z]):=by
   rw[cY]
   constructor
   ·rintro⟨t,ht,hf⟩
    obtain⟨x,y,rfl,hx,rfl⟩:=(hm t).1 ht
    rw[a6];exact hx.snoc hf
   ·intro h
    obtain⟨x,y,e,hx,hy,pL⟩:=h.last (by simp)
    have e2:=List.dropLast_concat_getLast pL
    rw[←e2,←a6]at e
    obtain⟨e3,e4⟩:=List.append_inj' e F
    simp only[List.cons.injEq,and_true]at e4
    refine⟨_,(hm _).2 ⟨x,y.dropLast,e3,hx,F⟩,?_⟩
    rw[e4,e2];exact hy
  show t∈(if(ga a (u.foldl (ur a) (FY a)).2 z).any (dF a)then BK a.next.length (ga a (u.foldl (ur a) (FY a)).2 z) a.start.toNat else ga a (u.foldl (ur a) (FY a)).2 z)↔_
  have Td: ∀ {x y:List Nat},u++[z]=x++y→y≠ []→ ∃y',y=y'++[z]∧u=x++y':=fun {x y} e pL=>by
   have e2:=List.dropLast_concat_getLast pL
   rw[←e2,←a6]at e
   obtain⟨e3,e4⟩:=List.append_inj' e F
   simp only[List.cons.injEq,and_true]at e4
   exact⟨y.dropLast,by rw[e4,e2],e3⟩
  by_cases hA:(ga a (u.foldl (ur a) (FY a)).2 z).any (dF a)=true
  ·rw[aJ hA,xm (nP a _ z).2 (ei ha),hm]
   constructor
   ·rintro(⟨x,y,e,hx,h⟩|rfl)
    ·exact⟨x,y++[z],by rw[e,a6],hx,h⟩
    ·exact⟨u++[z],[],by simp,lN.1 hA,F⟩
   ·rintro⟨x,y,e,hx,h⟩
    by_cases hy:y=[]
    ·subst hy;exact .inr h.symm
    ·obtain⟨y',rfl,e3⟩:=Td e hy
     exact .inl ⟨x,y',e3,hx,h⟩
  ·rw[aA hA,hm]
   constructor
   ·rintro⟨x,y,e,hx,h⟩
    exact⟨x,y++[z],by rw[e,a6],hx,h⟩
   ·rintro⟨x,y,e,hx,h⟩
    by_cases hy:y=[]
    ·subst hy
     simp only[c_]at e;subst e
     exact absurd (lN.2 hx) hA
    ·obtain⟨y',rfl,e3⟩:=Td e hy
     exact⟨x,y',e3,hx,h⟩
theorem AL (ha:Valid a) {u:List Nat} (hu: ∀x∈u,x<ez a):Js (GS a) Cy (QG a) (u.foldl (BP (GS a) Cy (ur a)) (Cy (FY a)))=qQ (iH a) u:=by
 rw[Cb (BT ha) (.start ha.toVal) hu]
 obtain⟨h1,h2⟩:=NG ha.toVal u hu
 rw[dB,rO]
 unfold QG
 rw[Bool.or_eq_true,h1,List.isEmpty_iff,cY]
 constructor
 ·rintro(rfl|⟨t,ht,hf⟩)
  ·exact .nil
  ·obtain⟨x,y,rfl,hx,rfl⟩:=(h2 t).1 ht
   exact hx.snoc hf
 ·intro h
  by_cases Pf:u=[]
  ·exact .inl Pf
  ·obtain⟨x,y,rfl,hx,hy,_⟩:=h.last Pf
   exact .inr ⟨_,(h2 _).2 ⟨x,y,F,hx,F⟩,hy⟩
end
def fY (p n x:Nat):Bool:=decide (x&&&p=p∧x&&&n=0)
def Ju (n:Nat) (h:Nat→Bool):Lg:=fun u=>u.length==n&&u.all h
def SD (n:Nat) (h:Nat→Bool) (s x:Nat):Int:=if s<n∧h x=true then((s+1:Nat):Int)else((n+1:Nat):Int)
def wm (L n:Nat) (h:Nat→Bool) (s:Nat):List Int:=(List.range L).map (SD n h s)
def FZ (v n:Nat) (h:Nat→Bool):cV:=⟨v,0,(List.range (n+2)).map (wm (2^v) n h),(List.replicate (n+2) false).set n true⟩
theorem JJ {v n:Nat} (h:Nat→Bool) (hv:v≤6) (hn:n≤1):Valid (FZ v n h):=by
 have n0:(FZ v n h).next.length=n+2:=by show((List.range (n+2)).map _).length=_;simp
 refine⟨{v0:=Int.natCast_nonneg _,v6:=by show(v:Int)≤6;omega,n0:=by omega,fin:=by rw[n0];show((List.replicate (n+2) false).set n true).length=_;simp,s0:=Int.le_refl _,s1:=by rw[n0];show(0:Int)<_;omega,len:=?_,ok:=?_},by omega⟩
 ·intro r hr
  obtain⟨s,_,rfl⟩:=List.mem_map.1 (show r∈(List.range (n+2)).map _ from hr)
  show((List.range (2^v)).map _).length=2^((v:Int).toNat)
  simp
 ·intro r hr x hx
  rw[n0]
  obtain⟨s,hs,rfl⟩:=List.mem_map.1 (show r∈(List.range (n+2)).map _ from hr)
  obtain⟨y,_,rfl⟩:=List.mem_map.1 (show x∈(List.range (2^v)).map _ from hx)
  unfold SD
  split<;>omega
theorem Wi {v n:Nat} {h:Nat→Bool} {s x:Nat} (hs:s<n+2) (hx:x<2^v):eS (FZ v n h) s x=if s<n∧h x=true then s+1 else n+1:=by
 have h1:(FZ v n h).next[s]? =some (wm (2^v) n h s):=by show((List.range (n+2)).map _)[s]? =_;rw[bi,List.getElem?_range hs];rfl
 have h2:(wm (2^v) n h s)[x]? =some (SD n h s x):=by unfold wm;rw[bi,List.getElem?_range hx];rfl
 unfold eS
 simp only[az,h1,Option.getD_some,h2]
 unfold SD
 split<;>exact Int.toNat_natCast _
theorem Cc {v n:Nat} {h:Nat→Bool}: ∀(u:List Nat) (s:Nat),s≤n+1→(∀x∈u,x<2^v)→runN (FZ v n h) s u=if s+u.length≤n∧u.all h=true then s+u.length else if u=[]then s else n+1
 | [],s,hs,_=>by
  simp only[dl,Nat.add_zero,List.all_nil]
  show s=_
  split<;>rfl
 |x::u,s,hs,hu=>by
  have hu2: ∀y∈u,y<2^v:=fun y hy=>hu y (by simp[hy])
  unfold runN
  rw[cP,Wi (by omega) (hu x (by simp))]
  by_cases hh:s<n∧h x=true
  ·rw[aJ hh]
   have h1:=Cc (h:=h) (n:=n) u (s+1) (by omega) hu2
   unfold runN at h1
   rw[h1]
   simp only[bG,List.all_cons,hh.2,Bool.true_and,reduceCtorEq,if_false]
   have e:s+1+u.length=s+(u.length+1):=by omega
   rw[e]
   by_cases Pf:u=[]
   ·subst Pf
    simp only[dl,List.all_nil,Nat.zero_add]
    rw[aJ ⟨by omega,trivial⟩,aJ ⟨by omega,trivial⟩]
   ·rw[aA Pf]
  ·rw[aA hh]
   have h1:=Cc (h:=h) (n:=n) u (n+1) (by omega) hu2
   unfold runN at h1
   rw[h1]
   simp only[bG,List.all_cons,reduceCtorEq,if_false]
   rw[aA (show¬(n+1+u.length≤n∧u.all h=true)from fun h9=>by omega),aA (show¬(s+(u.length+1)≤n∧(h x&&u.all h)=true)from fun h9=>hh ⟨by omega,(Bool.and_eq_true_iff.1 h9.2).1⟩)]
   split<;>rfl
theorem ot {v n:Nat} (h:Nat→Bool) (hv:v≤6) (hn:n≤1):HasL (v:Int) 3 (FZ v n h) (Ju n h):=by
 have n0:(FZ v n h).next.length=n+2:=by show((List.range (n+2)).map _).length=_;simp
 refine⟨JJ h hv hn,by omega,F,fun u hu=>?_⟩
 have hu2: ∀x∈u,x<2^v:=fun x hx=>by simpa using hu x hx
 unfold iH dF Ju
 show((List.replicate (n+2) false).set n true).getD (runN (FZ v n h) 0 u) false=_
 rw[Cc u 0 (by omega) hu2,Nat.zero_add]
 have hf: ∀k,k≤n+1→((List.replicate (n+2) false).set n true).getD k false=decide (k=n):=fun k hk=>by
  rw[az]
  by_cases e:k=n
  ·subst e;rw[List.getElem?_set_self (by simp)];simp
  ·rw[List.getElem?_set_ne (fun h=>e h.symm),List.getElem?_replicate];simp[e];split<;>rfl
 by_cases c1:u.length≤n∧u.all h=true
 ·rw[aJ c1,hf _ (by omega),c1.2,Bool.and_true]
  by_cases e:u.length=n<;>simp[e]
 ·rw[aA c1]
  by_cases e:u=[]
  ·subst e;exact absurd ⟨by simp,by simp⟩ c1
  ·rw[aA e,hf _ (by omega)]
   rw[am (by omega)]
   symm
   rw[Bool.and_eq_false_iff]
   by_cases e2:u.length=n
   ·exact .inr (by cases h9:u.all h with|false=>rfl|true=>exact absurd ⟨by omega,h9⟩ c1)
   ·exact .inl (by simp[e2])
theorem eV {v:Nat} (hv:v≤6):HasL (v:Int) 1 (fP (v:Int) true) (fun _=>true):=
 ⟨xz (by omega) (by omega) true,by show[_].length≤1;simp,F,fun w hw=>KK (by omega) (by omega) true hw⟩
inductive Rx where
 |none|empty
 |letter (p n:Nat)
 |ie (a b:Rx)|iu (a b:Rx)|and (a b:Rx)
 |not (a:Rx)|star (a:Rx)|ahead (a:Rx)|behind (a:Rx)
structure eC where
 op:Nat
 p:Nat
 n:Nat
 a:Int
 b:Int
def eC.cells (x:eC):List Value:=[.int .u8 (x.op:Int),.int .u8 (x.p:Int),.int .u8 (x.n:Int),.int .i64 x.a,.int .i64 x.b]
abbrev eC.cl (x:eC):List Value:=[.int .u8 (x.op:Int),.int .u8 (x.p:Int),.int .u8 (x.n:Int),.int .i64 x.a,.int .i64 x.b]
abbrev eC.ag (x:eC):Value:=.agg #[.int .u8 (x.op:Int),.int .u8 (x.p:Int),.int .u8 (x.n:Int),.int .i64 x.a,.int .i64 x.b]
def bQ (e:List eC):List Value:=e.flatMap eC.cells
theorem cB (e:List eC):(bQ e).length=e.length*5:=by
 induction e with
 |nil=>rfl
 |cons x e ih=>simp only[bQ,List.flatMap_cons,aP,bG]at ih⊢;rw[ih];simp[eC.cells];omega
theorem kP {e:List eC}: ∀ {i:Nat} (hi:i<e.length) (j:Nat) (h:j<e[i].cells.length),(bQ e)[i*5+j]? =some e[i].cells[j]:=by
 induction e with
 |nil=>intro i hi;simp at hi
 |cons x e ih=>
  intro i hi j hj
  simp only[bQ,List.flatMap_cons]
  cases i with
  |zero=>rw[Nat.zero_mul,Nat.zero_add,bE (show j<x.cells.length from hj)];exact ap hj
  |succ i=>
   have h5:x.cells.length=5:=rfl
   rw[bM (by rw[h5];omega),show(i+1)*5+j-x.cells.length=i*5+j by rw[h5];omega]
   exact ih (by simpa using hi) j hj
def ut (e:List eC):Rx→Nat→Prop
 | .none,i=>e[i]? =some ⟨1,0,0,0,0⟩
 | .empty,i=>e[i]? =some ⟨2,0,0,0,0⟩
 | .letter p n,i=>e[i]? =some ⟨3,p,n,0,0⟩∧p<256∧n<256
 | .ie a b,i=> ∃j k:Nat,e[i]? =some ⟨4,0,0,(j:Int),(k:Int)⟩∧ut e a j∧ut e b k
 | .iu a b,i=> ∃j k:Nat,e[i]? =some ⟨5,0,0,(j:Int),(k:Int)⟩∧ut e a j∧ut e b k
 | .and a b,i=> ∃j k:Nat,e[i]? =some ⟨6,0,0,(j:Int),(k:Int)⟩∧ut e a j∧ut e b k
 | .not a,i=> ∃j:Nat,e[i]? =some ⟨7,0,0,(j:Int),0⟩∧ut e a j
 | .star a,i=> ∃j:Nat,e[i]? =some ⟨8,0,0,(j:Int),0⟩∧ut e a j
 | .ahead a,i=> ∃j:Nat,e[i]? =some ⟨9,0,0,(j:Int),0⟩∧ut e a j
 | .behind a,i=> ∃j:Nat,e[i]? =some ⟨10,0,0,(j:Int),0⟩∧ut e a j
theorem ut.lt {e:List eC} {t:Rx} {i:Nat} (h:ut e t i):i<e.length:=by
 have g: ∀ {x:eC},e[i]? =some x→i<e.length:=fun h=>(List.getElem?_eq_some_iff.1 h).1
 cases t with
 |none=>exact g h
 |empty=>exact g h
 |letter p n=>exact g h.1
 |ie a b=>obtain⟨_,_,h,_⟩:=h;exact g h
 |iu a b=>obtain⟨_,_,h,_⟩:=h;exact g h
 |and a b=>obtain⟨_,_,h,_⟩:=h;exact g h
 |not a=>obtain⟨_,h,_⟩:=h;exact g h
 |star a=>obtain⟨_,h,_⟩:=h;exact g h
 |ahead a=>obtain⟨_,h,_⟩:=h;exact g h
 |behind a=>obtain⟨_,h,_⟩:=h;exact g h
theorem iP {e:List eC} {i:Nat} {x:eC} (h:e[i]? =some x): ∃hi:i<e.length,e[i]=x:=by
 obtain⟨hi,h⟩:=List.getElem?_eq_some_iff.1 h;exact⟨hi,h⟩
def Rx.plain:Rx→Bool
 | .ahead _| .behind _=>false
 | .ie a b| .iu a b| .and a b=>a.plain&&b.plain
 | .not a| .star a=>a.plain
 |_=>true
def fx:Rx→Lg
 | .none=>fun _=>false
 | .empty=>Ju 0 (fY 0 0)
 | .letter p n=>Ju 1 (fY p n)
 | .ie a b=>iA (fx a) (fx b)
 | .iu a b=>fun u=>fx a u||fx b u
 | .and a b=>fun u=>fx a u&&fx b u
 | .not a=>fun u=>!fx a u
 | .star a=>qQ (fx a)
 | .ahead a=>fx a
 | .behind a=>fx a
instance:Nonempty cV:=⟨CG⟩
noncomputable def minOf (v:Nat) (p:Lg):cV:=Classical.epsilon fun M=>fQ (v:Int) 4096 M p
theorem gY {v B:Nat} {M:cV} {p:Lg} (h:fQ (v:Int) B M p) (hB:B≤4096):M=minOf v p:=by
 have h2:fQ (v:Int) 4096 M p:=⟨h.toHasL.le (bo h.len hB),h.min⟩
 have h3:=Classical.epsilon_spec (p:=fun M=>fQ (v:Int) 4096 M p) ⟨M,h2⟩
 exact fQ.ext h2 h3 fun _ _=>rfl
def Wn (f:Bool→Bool→Bool) (a b:cV) (B:Nat):Prop:=(order (bZ f a b)).length≤4096∧(tG f a b).next.length≤B
def kv (v:Nat):Rx→Nat→Prop
 | .none,B=>(oM (fP (v:Int) true)).next.length≤B
 | .empty,B=>(jm (FZ v 0 (fY 0 0))).next.length≤B
 | .letter p n,B=>(jm (FZ v 1 (fY p n))).next.length≤B
 | .ie a b,B=>kv v a B∧kv v b B∧BS (minOf v (fx a)) (minOf v (fx b)) (ez (minOf v (fx a))) B
 | .iu a b,B=>kv v a B∧kv v b B∧Wn Fi (minOf v (fx a)) (minOf v (fx b)) B
 | .and a b,B=>kv v a B∧kv v b B∧Wn sB (minOf v (fx a)) (minOf v (fx b)) B
 | .not a,B=>kv v a B∧(oM (minOf v (fx a))).next.length≤B
 | .star a,B=>kv v a B∧FX (minOf v (fx a)) (ez (minOf v (fx a))) B
 | .ahead a,B=>kv v a B
 | .behind a,B=>kv v a B
theorem notM {v:Int} {B C:Nat} {M:cV} {p:Lg} (h:HasL v B M p) (hl:(oM M).next.length≤C):fQ v C (oM M) (fun u=>!p u):=by
 have hv:=h.valid.toVal
 have h1:=xI (f:=qn) h h (N:=M.next.length) (qo hv hv F hv F (Pu.refl M) (Pu.refl M)) h.valid.n4
 exact⟨h1.toHasL.le hl,h1.min⟩
theorem MN {v B:Nat} (hv:v≤6) (hl:(oM (fP (v:Int) true)).next.length≤B):fQ (v:Int) B (oM (fP (v:Int) true)) (fx .none):=notM (eV hv) hl
theorem opM {f:Bool→Bool→Bool} {v:Int} {B C:Nat} {a b:cV} {p q:Lg} (ha:fQ v B a p) (hb:fQ v B b q) (ho:(order (bZ f a b)).length≤4096) (hl:(tG f a b).next.length≤C):fQ v C (tG f a b) (fun u=>f (p u) (q u)):=by
 have h1:=xI (f:=f) ha.toHasL hb.toHasL ho (aS _)
 exact⟨h1.toHasL.le hl,h1.min⟩
theorem iv.take {v:Int} {w:List Nat} (h:iv v w) (n:Nat):iv v (w.take n):=fun x hx=>h x (List.mem_of_mem_take hx)
theorem iv.drop {v:Int} {w:List Nat} (h:iv v w) (n:Nat):iv v (w.drop n):=fun x hx=>h x (List.mem_of_mem_drop hx)
theorem yJ {α:Type} {l:List α} {f g:α→Bool} (h: ∀x∈l,f x=g x):l.any f=l.any g:=by
 induction l with
 |nil=>rfl
 |cons x l ih=>rw[List.any_cons,List.any_cons,h x (by simp),ih fun y hy=>h y (by simp[hy])]
theorem pT {v:Int} {p q p' q':Lg} (hp: ∀w,iv v w→p w=p' w) (hq: ∀w,iv v w→q w=q' w) {w:List Nat} (hw:iv v w):iA p q w=iA p' q' w:=
 yJ fun i _=>by rw[hp _ (hw.take i),hq _ (hw.drop i)]
theorem wA {v:Int} {p p':Lg} (hp: ∀w,iv v w→p w=p' w): ∀(n:Nat) {w:List Nat},iv v w→yG p n w=yG p' n w
 |0,w,_=>rfl
 |n+1,w,hw=>by
  show(w.isEmpty||_)=(w.isEmpty||_)
  congr 1
  exact yJ fun i _=>by rw[hp _ (hw.take _),wA hp n (hw.drop _)]
theorem wo {v:Int} {p p':Lg} (hp: ∀w,iv v w→p w=p' w) {w:List Nat} (hw:iv v w):qQ p w=qQ p' w:=wA hp _ hw
theorem fQ.to {v:Int} {B:Nat} {M:cV} {p q:Lg} (h:fQ v B M p) (hq: ∀w,iv v w→p w=q w):fQ v B M q:=
 ⟨⟨h.valid,h.len,h.vars,fun u hu=>by rw[h.iH u hu];exact hq u hu⟩,h.min⟩
theorem fW {e:List eC} {i:Nat} {x:eC} (h:e[i]? =some x): ∀j (hj:j<x.cells.length),(bQ e)[i*5+j]? =some x.cells[j]:=fun j hj=>by
 obtain⟨hi,rfl⟩:=iP h
 exact kP hi j hj
section
variable {H:Type} {enc:TypeId×Value→H} {P:Program}
theorem PA {te e ti tu:TypeId} {f0 f1 f2 f3 f4:Field} {W:World} {r:Reach} {b0:Nat} {v:Value} {d:DataW H} {p:List MemPlace} (ht:P.underlying te=some (.slice e)) (he:P.underlying e=some (.struct #[f0,f1,f2,f3,f4])) (ce:P.cellsOf e=5) (be:0<P.bytesOf e)
  (h0:f0.type=tu) (h1:f1.type=tu) (h2:f2.type=tu) (h3:f3.type=ti) (h4:f4.type=ti) (o0:f0.offset=0) (o1:f1.offset=1) (o2:f2.offset=2) (o3:f3.offset=3) (o4:f4.offset=4)
  (hi:P.underlying ti=some (.int .i64)) (hu:P.underlying tu=some (.int .u8)) (ci:P.cellsOf ti=1) (cu:P.cellsOf tu=1)
  (mT:Value.okWide P W r b0 te v) (hw: ∀m∈d.weights P te,m≤reachBytes) (g:DataW.Trod enc P W 0 (fun _=>true) true te v d p):
  ∃(b:Option Addr) (cp:Nat) (es:List eC),v=.slice b es.length cp∧es.length≤reachBytes∧es.length≤cp∧Sl W b (bQ es)∧ ∀x∈es,x.p<256∧x.n<256:=by
 obtain⟨gv,g⟩:=g
 have hv:v.cells.toList=[v]:=by
  unfold Value.okWide at mT
  rw[ht]at mT
  simp only at mT
  unfold Cell.okWide Cell.ok at mT
  rw[ht]at mT
  cases v<;>simp_all[Value.cells]
 rw[hv]at g
 rcases open_slice ht g with⟨h,_⟩|⟨a,len,cap,m,n,D,Pl,h,_,hl,_,hm,hx,lj⟩
 ·exact⟨none,0,[],by simpa using h,bl _,bl _,Sl.nil _ _,fun e h=>by cases h⟩
 ·simp only[if_true]at hm
  have hm':=hm.symm
  subst hm'
  have hd:d=_:=au Prod.fst hx
  rw[hd]at hw
  have hb:=(vU ht be hw).1
  have zm:len≤reachBytes:=by simpa using hb
  have each: ∀i,i<cap→ ∃q:eC,(q.p<256∧q.n<256)∧ ∀j,j<5→W.cell? (a.add (i*5+j))=q.cells[j]? :=by
   intro i K3
   obtain⟨Bn,k1,k2⟩:=lj i K3
   rw[ce]at k1
   obtain⟨_,ig,K2⟩:=World.cells?_some k1
   obtain⟨xs,k,hk,hxy,_,Ft,hf⟩:=DataW.trod_struct he k2
   match xs,Ft,Bn,ig with
   | [y0,y1,y2,y3,y4],_,[v0,v1,v2,v3,v4],_=>
    have g0:=hf 0 f0 F
    have g1:=hf 1 f1 F
    have g2:=hf 2 f2 F
    have g3:=hf 3 f3 F
    have g4:=hf 4 f4 F
    rw[h0,o0,cu]at g0
    rw[h1,o1,cu]at g1
    rw[h2,o2,cu]at g2
    rw[h3,o3,ci]at g3
    rw[h4,o4,ci]at g4
    obtain⟨n0,e0,_,w0⟩:=DataW.trod_int hu g0
    obtain⟨n1,e1,_,w1⟩:=DataW.trod_int hu g1
    obtain⟨n2,e2,_,w2⟩:=DataW.trod_int hu g2
    obtain⟨n3,e3,_,w3⟩:=DataW.trod_int hi g3
    obtain⟨n4,e4,_,w4⟩:=DataW.trod_int hi g4
    have e0':v0=.int .u8 n0:=by simpa using e0
    have e1':v1=.int .u8 n1:=by simpa using e1
    have e2':v2=.int .u8 n2:=by simpa using e2
    have e3':v3=.int .i64 n3:=by simpa using e3
    have e4':v4=.int .i64 n4:=by simpa using e4
    subst e0' e1' e2' e3' e4'
    have b0:=Pz w0
    have b1:=Pz w1
    have b2:=Pz w2
    refine⟨⟨n0.toNat,n1.toNat,n2.toNat,n3,n4⟩,⟨by simp only;omega,by simp only;omega⟩,fun j hj=>?_⟩
    have q:=K2 j hj
    rw[add_add]at q
    rw[q]
    match j,hj with
    |0,_=>simp[eC.cells,cM b0.1]
    |1,_=>simp[eC.cells,cM b1.1]
    |2,_=>simp[eC.cells,cM b2.1]
    |3,_=>rfl
    |4,_=>rfl
  have:Inhabited eC:=⟨⟨0,0,0,0,0⟩⟩
  obtain⟨q,hq⟩:=choose_lt each
  refine⟨some a,cap,(List.range len).map q,by simpa using h,by simp;omega,by simp;omega,tL fun i K3=>?_,fun e he9=>?_⟩
  ·have wI:i<len*5:=by rw[cB]at K3;simpa using K3
   have h4:=(hq (i/5) (by omega)).2 (i%5) (by omega)
   rw[show i/5*5+i%5=i by omega]at h4
   rw[h4]
   have h5:=kP (e:=(List.range len).map q) (i:=i/5) (by simp;omega) (i%5) (by simp[eC.cells];omega)
   rw[show i/5*5+i%5=i by omega,ap K3]at h5
   rw[db h5]
   simp only[jv,List.getElem_range]
   exact ap _
  ·obtain⟨j,hj,rfl⟩:=List.mem_map.1 he9
   exact(hq j (by have:=List.mem_range.1 hj;omega)).1
end
theorem I_ {P:Program} {r:Option Nat} {base:World} {n:Nat} {c:Code} {Q:ll} {ρ:Env} {O:List Item} (O':List Item) (L:List (Nat×Value)) (e:O=O') (h:df L ρ) (k: ∀gA,T P r base n c Q (CS L gA) O'):T P r base n c Q ρ O:=by
 obtain⟨gA,rfl⟩:=h.elim
 subst e
 exact k gA
theorem oh {P:Program} {r:Option Nat} {base:World} {n m:Nat} {c:Code} {Q:ll} {ρ:Env} {O:List Item} (O':List Item) (L:List (Nat×Value)) (e:O=O') (h:df L ρ) (k: ∀gA,Sa P r base n c Q m (CS L gA) O'):Sa P r base n c Q m ρ O:=by
 obtain⟨gA,rfl⟩:=h.elim
 subst e
 exact k gA
section
variable {P:Program} {base:World} {ρ:Env} {O:List Item} {dst:Option Nat} {t:TypeId} {p:String} {af:Array Edge} {g:Option (Nat×Bool)}
end
def dK (P:Program) (base:World) (tm:Value) (f:FuncId) (args:List Value) (O:List Item) (R:Value→List Item→Prop) (Z:Prop):Prop:=
 ∀w M,Inv base (O++M) w→Calls P f args.toArray w fun e w'=>(∃v O',e=.returned v∧Inv base (O'++M) w'∧R v O')∨(e=.panicked [{v:=tm,recovered:=false}]∧Inv base M w'∧Z)
theorem dK.mono {P:Program} {base:World} {tm:Value} {f:FuncId} {args:List Value} {O:List Item} {R R':Value→List Item→Prop} {Z Z':Prop} (h:dK P base tm f args O R Z) (hr: ∀v O',R v O'→R' v O') (hz:Z→Z'):dK P base tm f args O R' Z':=
 fun w M hI=>(h w M hI).mono fun _ _ h=>h.imp (fun⟨v,O',h1,h2,h3⟩=>⟨v,O',h1,h2,hr v O' h3⟩) (fun⟨h1,h2,h3⟩=>⟨h1,h2,hz h3⟩)
theorem dK.under {P:Program} {base:World} {tm:Value} {f:FuncId} {args:List Value} {A B O:List Item} {R:Value→List Item→Prop} {Z:Prop} (h:dK P base tm f args A R Z) (hs:Sub (A++B) O):dK P base tm f args O (fun v O'=> ∃A',O'=A'++B∧R v A') Z:=
 fun w M hI=>(h w (B++M) (by have:=hI.kN hs.sJ;rwa[a6]at this)).mono fun _ _ h=>h.imp (fun⟨v,A',h1,h2,h3⟩=>⟨v,A'++B,h1,by rwa[a6],A',F,h3⟩) (fun⟨h1,h2,h3⟩=>⟨h1,h2.kN ⟨M,List.Perm.refl _,List.sublist_append_right B M⟩,h3⟩)
theorem dK.pure {P:Program} {base:World} {tm:Value} {f:FuncId} {args:List Value} {O:List Item} {R:Value→List Item→Prop} {Z:Prop} (h: ∀w,Inv base O w→dK P w tm f args [] R Z):dK P base tm f args O (fun v O'=> ∃N,O'=N++O∧R v N) Z:=
 fun w M hI=>(h w hI.left w [] (Inv.refl w)).mono fun _ _ h=>h.imp (fun⟨v,N,h1,h2,h3⟩=>⟨v,N++O,h1,by
  have:=hI.call h2
  simpa[a6]using this,N,F,h3⟩) (fun⟨h1,h2,h3⟩=>⟨h1,by
  have:=hI.call h2
  exact this.kN ⟨M,List.Perm.refl _,by simp⟩,h3⟩)
theorem cj.fq {P:Program} {base:World} {f:FuncId} {args:List Value} {O:List Item} {R:Value→List Item→Prop} (E:TypeId) (k:Nat) (h:cj P base f args (av none 0 E k []::O) R):cj P base f args O R:=
 fun w M hI=>h w M (Inv.fq hI E k)
theorem Inv.gS {base w:World} {O:List Item} (hI:Inv base O w) {b:Nat} {cs:List Value} {T:TypeId} (h:dY b (.cells cs.toArray T (0,0))∈O):Sl w (aD b) cs:=fun i hi=>by
 have hb:w.heap[b]? =some (.cells cs.toArray T (0,0)):=hI.holds _ h
 exact⟨⟨b,0,none⟩,F,F,by simp[World.cell?,hb,hi]⟩
theorem cW {P:Program} {base:World} {O:List Item} {fv:Value} {args:List Value} {R:Value→List Item→Prop} (h: ∀w,Inv base O w→eH P w fv args [] R):eH P base fv args O (fun v O'=> ∃N,O'=N++O∧R v N):=fun w M hI=>by
 have h1:=h w hI.left w [] (Inv.refl w)
 have key: ∀w' N,Inv w (N++[]) w'→Inv base (N++O++M) w':=fun w' N h2=>by
  have:=hI.call h2
  simpa[a6]using this
 revert h1
 cases(lw fv args.toArray).run P w with
 |halt e w=>exact id
 |ok y w=>
  cases y<;>first
   |exact id
   |exact fun h=>Calls.mono h fun _ _ ⟨v,N,h1,h2,h3⟩=>⟨v,N++O,h1,key _ N h2,N,F,h3⟩
   |exact fun h=>RoundIn.mono h fun _ _ ⟨v,N,h1,h2,h3⟩=>⟨v,N++O,h1,key _ N h2,N,F,h3⟩
section
variable {P:Program} {r:Option Nat} {base:World} {n:Nat} {Q:ll} {ρ:Env} {O S S2:List Item} {tail dw:List Nat} {ops:Array Oper} {K:Env→List Item→Prop} {X:PX}
def Rs (X:PX) (P:Program) (r:Option Nat) (base:World) (n:Nat) (o:Oper) (ρ:Env) (O:List Item) (K:Env→List Item→Prop):Prop:=
 ∀a w M ds,Ag n ds a ρ→Inv base (O++M) w→ ∀(next:Act→World→Prop) (Qx:Exit→Act→World→Prop),
  (∀a' gX O' w',Ag n ds a' gX→Inv base (O'++M) w'→K gX O'→next a' w')→(∀c w',X c→Inv base M w'→Qx (.panic c) a w')→o.wpIn (Fr r) 0 P a w next Qx
theorem eJ {l:List Oper} {o:Oper} (hg:o.guard=none) (h:Rs X P r base n o ρ O (fun gX O'=>TO X P r base n ops l K gX O')):TO X P r base n ops (o::l) K ρ O:=
 fun Q a w M D hk ha hi=>wpListIn_plain hg fun next fy=>h a w _ _ ha hi next _ (fun a' _ _ w' h1 h2 h3=>fy a' w' (h3 Q a' w' M D hk h1 h2)) fun c w' hx hI=>⟨ρ,[],D,ha,hI,hk.2 c ρ hx⟩
theorem y6 {gv:Nat} {listed:Array Bool} (i:Nat) {o:Oper} (hi:ops[i]? =some o) (hg:o.guard=none) (hr:Region.ready .any ops listed=[i])
  (h:Rs X P r base n o ρ O (fun gX O'=>(i∈tail∨Sub S O')∧(i∈dw∨Sub S2 O')∧RO X P r base n ops S tail S2 dw gv (listed.setIfInBounds i true) K gX O')):RO X P r base n ops S tail S2 dw (gv+1) listed K ρ O:=by
 intro Q a w M D hq hp ha hI oO hS
 refine⟨fun h0=>(by rw[hr]at h0;cases h0),fun j hj=>?_⟩
 rw[hr]at hj
 obtain rfl:j=i:=by simpa using hj
 have An:j∈Region.ready .any ops listed:=by rw[hr];simp
 have gw:j<listed.size:=by
  have:=(mem_ready.1 An).1
  rcases Nat.lt_or_ge j listed.size with h'|h'
  ·exact h'
  ·simp[Array.getElem?_eq_none h']at this
 unfold wpOpIn
 simp only[hi]
 rw[aJ (by simp[Region.wanted,hg])]
 refine h a w _ _ ha hI _ _ (fun a' gX O' w' h1 h2 h3=>?_) fun c w' hx hI=>⟨ρ,[],D,ha,hI,hp.pan c ρ hx⟩
 have si: ∀(tl:List Nat) (Z:List Item),(j∈tl∨Sub Z O')→(tl.any fun b=>(listed.setIfInBounds j true).getD b false)=true∨Inv base Z w':=fun tl Z h3=>by
  rcases h3 with h4|h4
  ·refine .inl (List.any_eq_true.2 ⟨j,h4,?_⟩)
   simp[gw]
  ·exact .inr (h2.left.kN h4)
 have qw:je base S tail S2 dw (listed.setIfInBounds j true) w':=⟨h2.lK,si _ _ h3.1,si _ _ h3.2.1⟩
 exact⟨qw,h3.2.2 Q a' w' M D hq hp h1 h2 (jp oO An) qw⟩
theorem Rs.mono {o:Oper} {K':Env→List Item→Prop} (h:Rs X P r base n o ρ O K) (hk: ∀gX O',K gX O'→K' gX O'):Rs X P r base n o ρ O K':=
 fun a w M ds ha hI next Qx fy hx=>h a w M ds ha hI next Qx (fun a' gX O' w' h1 h2 h3=>fy a' gX O' w' h1 h2 (hk _ _ h3)) hx
theorem iD {l:List (Nat×Nat)} {i:Nat} {o:Oper} (hi:ops[i]? =some o) (hg:o.guard=none)
  (h:Rs X P r base n o ρ O (fun gX O'=>Sub S O'∧DO X P r base n ops S tail [] dw l K gX O')):DO X P r base n ops S tail [] dw ((i,1)::l) K ρ O:=fun hs lZ hl listed hb=>by
 simp only[jS,ay,beq_iff_eq]at hb
 refine y6 i hi hg hb.1 (h.mono fun gX O' h3=>⟨.inr h3.1,.inr (ck (cr _)),h3.2 hs lZ (fun q hq=>hl q (List.mem_cons_of_mem _ hq)) _ hb.2⟩)
theorem sW {l:List (Nat×Nat)} {i:Nat} {o:Oper} (hi:ops[i]? =some o) (hg:o.guard=none)
  (h:Rs X P r base n o ρ O (fun gX O'=>DO X P r base n ops S tail S2 dw l K gX O')):DO X P r base n ops S tail S2 dw ((i,2)::l) K ρ O:=fun hs lZ hl listed hb=>by
 simp only[jS,ay,beq_iff_eq]at hb
 refine y6 i hi hg hb.1 (h.mono fun gX O' h3=>⟨.inl ((hl (i,2) (by simp)).1.1 F),.inl ((hl (i,2) (by simp)).2.1 (.inl F)),h3 hs lZ (fun q hq=>hl q (List.mem_cons_of_mem _ hq)) _ hb.2⟩)
theorem e8 {d:Nat} {t:TypeId} {p:String} {af:Array Edge} {g:Option (Nat×Bool)} {f:FuncId} {fn:Func} {tm:Value} {args:List Operand} {zM:Array TypeId} {vs:List Value} {R:Value→List Item→Prop} {Z:Prop} (he:Enters P f fn)
  (hc:dK P base tm f vs O R Z) (ha:IS ρ args=vs) (hz:Z→X [{v:=tm,recovered:=false}]) (h: ∀v O',R v O'→K (pE ρ d v) O') (hn:Nat.blt d n=true:=by rfl):
  Rs X P r base n ⟨some d,.call ⟨.value (.func f),args.toArray,zM⟩,t,p,af,g⟩ ρ O K:=by
 subst ha
 intro a w M ds ha hi next Qx fy hx
 have tP: ¬fn.name= "runtime.NumGoroutine" :=by simpa using he.2.1
 obtain⟨bd,PI⟩:=Option.isSome_iff_exists.1 he.2.2
 have hr:(execOp a.eval ⟨some d,.call ⟨.value (.func f),args.toArray,zM⟩,t,p,af,g⟩).run P w=.ok (.enter f (IS ρ args).toArray) w:=by
  rw[ha.eval,sN]
  simp[lw,ev,Deferred.ofValue,invoke,callFunc,he.1,tP,PI]
 refine mg (by intro c e;cases e) ?_
 rw[hr,Oper.uponIn_enter]
 refine⟨fun e=>by simp[Fr,Fence.wide]at e,nD (Calls.mono (hc w M hi) ?_)⟩
 rintro e w' (⟨v,O',rfl,oH,hR⟩|⟨rfl,oH,hZ⟩)
 ·exact fy _ _ _ _ (ha.put hn v) oH (h v O' hR)
 ·exact hx _ _ (hz hZ) oH
theorem xh {dst:Option Nat} {t:TypeId} {p:String} {af:Array Edge} {g:Option (Nat×Bool)} {x:Operand} {T:TypeId} {u:Value} (hx:ev ρ x=.iface T u) (h:X [{v:=.iface T u,recovered:=false}]):Rs X P r base n ⟨dst,.panic x,t,p,af,g⟩ ρ O K:=by
 intro a w M ds ha hi next Qx fy hq
 refine mg (by intro c e;cases e) ?_
 have hr:(execOp a.eval ⟨dst,.panic x,t,p,af,g⟩).run P w=.halt (.panic (.iface T u)) w:=by
  rw[ha.eval];simp[execOp,hx,Instr.panic]
 rw[hr,Oper.uponIn_panic]
 exact hq _ _ h (hi.kN ⟨M,List.Perm.refl _,List.sublist_append_right O M⟩)
theorem rP {dst:Option Nat} {t:TypeId} {p:String} {af:Array Edge} {g:Option (Nat×Bool)} {x:Operand} {T:TypeId} {fs:Array Field} {v:Value} (hu:P.underlying T=some (.struct fs)) (hx:ev ρ x=v):QT P base ⟨dst,.makeInterface T x,t,p,af,g⟩ ρ O (.iface T v):=fun w _=>by
 simp[execOp,hx,Instr.makeInterface,bw hu]
theorem Y4 {dst:Option Nat} {t:TypeId} {p:String} {af:Array Edge} {g:Option (Nat×Bool)} {x:Operand} {T:TypeId} {k:IntKind} {a:Int} (hx:ev ρ x=.int k a):QT P base ⟨dst,.unOp .neg T x,t,p,af,g⟩ ρ O (.int k (k.wrap (-a))):=fun w _=>by
 simp[execOp,hx,Op.unary,Op.intArith]
theorem Mv (i:Nat) {t:TypeId} {p:String} {af:Array Edge} {g:Option (Nat×Bool)} {x:Operand} {T E:TypeId} {b o m c lo gQ:Nat} {cs:List Value} {z:Value} (hu:P.underlying T=some (.slice E)) (hi:fT P E z 1 gQ) (hz:z.cells= #[z]) (hz1:fF z=true)
  (hx:ev ρ x=.slice (CX (some ⟨b,o,none⟩) c lo 1) (m-lo) (c-lo)) (hlo:lo<m) (hm:m≤c) (hO:O[i]? =some (av (some ⟨b,o,none⟩) c E 1 cs)) (h:K ρ (O.set i (av (some ⟨b,o,none⟩) c E 1 (cs.take lo)))):
  LT P r base n ⟨none,.call ⟨.builtin .clear,#[x],#[T]⟩,t,p,af,g⟩ ρ O K:=by
 intro a w M ds ha hI next Qx fy
 obtain⟨_,full,hb,h1,h2,h3⟩:=hI.row (nC hO)
 obtain⟨fl,rfl⟩: ∃fl:List Value,full=fl.toArray:=⟨full.toList,by simp⟩
 simp only[Nat.mul_one,List.size_toArray]at h1 h2
 have hs:CX (some ⟨b,o,none⟩) c lo 1=some ⟨b,o+lo,none⟩:=by
  unfold CX;rw[aA (by omega),Option.map_some,Nat.mul_one,rF]
 have hzs:(Builtin.zeroCells z.cells (m-lo)).toList=List.replicate (m-lo) z:=by
  have:=rE z (m-lo)
  rw[hz];simp only[Builtin.zeroCells]
  simpa using au Array.toList this
 have Ld:=lu (P:=P) (b:=b) (o:=o+lo) (T:=E) (List.replicate (m-lo) z) fl 0 w hb (by simp;omega) (by simp[hz1])
 have hr:(execOp a.eval ⟨none,.call ⟨.builtin .clear,#[x],#[T]⟩,t,p,af,g⟩).run P w=.ok (.value (.tuple #[])) (j7 w b (.cells (eZ fl (o+lo) (List.replicate (m-lo) z)).toArray E (0,0))):=by
  rw[ha.eval]
  obtain⟨k,hk⟩: ∃k,m-lo=k+1:=⟨m-lo-1,by omega⟩
  rw[hk]at hzs Ld hx⊢
  simp only[Nat.add_zero]at Ld
  simp[execOp,resolve,hx,hs,invoke,builtin,Builtin.clear_,bw hu,gM hi,hzs,Ld]
 refine mg (by intro c e;cases e) ?_
 rw[hr]
 refine fy _ _ _ _ ha ?_ h
 rw[←pI hO]
 refine hI.setRow (nC hO) (by simp;omega) (by simp[iM];omega) fun j hj=>?_
 have sP:j<lo∧j<cs.length:=by simp at hj;omega
 have:=h3 j sP.2
 simp only[List.getElem?_toArray]at this⊢
 rw[nB _ _ _ _ (by simp;omega),aA (by omega),this]
 simp
def aaS (P:Program) (base:World) (fn:Func) (tm:Value) (R:Value→List Item→Prop) (Z:Prop):ll
 | .normal,ρ,O=>rG P base fn ρ O R
 | .ret,ρ,O=>rG P base fn ρ O R
 | .panic c,_,_=>c=[{v:=tm,recovered:=false}]∧Z
 |_,_,_=>False
theorem sv {fn:Func} {tmps:Array Value} {M O':List Item} {c:List PanicEntry} {Rx:Ending→World→Prop} (h: ∀w,Inv base (O'++M) w→Rx (.panicked c) w):
  ∀(D:List Nat) (w:World),Inv base (O'++(mI D++M)) w→LeavesInM Fence.wide 0 P fn tmps Rx (mD D) (.panicking c) w
 | [],w,hI=>h w hI
 |b::D,w,hI=>by
  have oH:Inv base (O'++vV b::(mI D++M)) w:=hI
  have hb:w.heap[b]? =some (.deferred (some [])):=oH.holds (vV b) (by simp)
  refine⟨by simp,.inl ⟨b,w.putObj b (.deferred none),F,run_takeDeferred hb,sv h D _ ?_⟩⟩
  have:=Inv.step (N:=[]) (w':=w.putObj b (.deferred none)) oH F F F (by simp) (fun k _ hk=>World.putObj_heap_other (fun e=>hk (by simp[vV,dY,e]))) (by simp) (by simp) (by simp)
  simpa using this
theorem dS {f:FuncId} {fn:Func} {tm:Value} {c:Code} {args:List Value} {R:Value→List Item→Prop} {Z:Prop} (hf:P.funcs[f]? =some fn) (hb:fn.body=some c) (hn:fn.ntmps=n) (hl:Nat.ble args.length n=true)
  (h:T P none base n c (aaS P base fn tm R Z) (entry args) O):dK P base tm f args O R Z:=by
 have hl:=Nat.le_of_ble_eq_true hl
 intro w M hI
 rw[←callsIn_wide (n:=0)]
 refine callsIn_of_wp_marks hf hb trivial (wpIn_mono (h _ w M [] trivial ⟨?_,?_,F⟩ hI) ?_)
 ·intro t
  show(args.toArray++Array.replicate (fn.ntmps-args.toArray.size) undef).getD t undef=args.getD t undef
  rw[dv,az]
  by_cases h:t<args.length
  ·rw[Array.getElem?_append_left (by simpa using h)];simp
  ·rw[Array.getElem?_append_right (by simpa using h)]
   have:args[t]? =none:=by simp;omega
   rw[this,Array.getElem?_replicate]
   split<;>rfl
 ·simp;omega
 ·have key: ∀(a':Act) (w':World) (gX:Env) (O':List Item) (D:List Nat),Ag n (mD D) a' gX→Inv base (O'++(mI D++M)) w'→rG P base fn gX O' R→
    LeavesInM Fence.wide 0 P fn a'.tmps (fun e PD=>(∃v O',e=.returned v∧Inv base (O'++M) PD∧R v O')∨(e=.panicked [{v:=tm,recovered:=false}]∧Inv base M PD∧Z)) a'.defers .returning w':=by
   intro a' w' gX O' D h1 h2 h3
   obtain⟨v,zn,zJ,hR,hr⟩:=h3.ex
   rw[h1.defers]
   exact pJ (fun w hI=>⟨v,hr w a'.tmps hI.left h1.tmp,.inl ⟨v,zn,F,hI.kN zJ.sJ,hR⟩⟩) D w' h2
  rintro e a' w' ⟨gX,O',D,h1,h2,h3⟩
  cases e with
  |normal=>exact key a' w' gX O' D h1 h2 h3
  |ret=>exact key a' w' gX O' D h1 h2 h3
  |panic ch=>
   obtain⟨rfl,hz⟩:=h3
   show LeavesInM Fence.wide 0 P fn a'.tmps _ a'.defers _ w'
   rw[h1.defers]
   exact sv (O':=O') (fun w hI=>.inr ⟨F,hI.kN ⟨M,List.Perm.refl _,List.sublist_append_right O' M⟩,hz⟩) D w' h2
  |_=>exact h3.elim
end
end Go.Lx


/- Contracts of functions of the program, and what they answer. Conditions: those each theorem names. -/
import Derived.Test.YtgdbfideeeegmaaGreatDoorA1
import Derived.Shelf.Strconv.Itoa3
import Derived.Lib.AppendIntMem
import Derived.Lib.TrailingZeros
import Derived.Maps.RangeRun
set_option linter.unusedSectionVars false
set_option linter.unusedSimpArgs false
set_option linter.unusedVariables false
set_option linter.unnecessarySimpa false
set_option maxHeartbeats 8000000
set_option maxRecDepth 20000
namespace Go.Lx
section
variable {α:Type} [DecidableEq α]
def ix (x:α):List α→Nat
 | []=>0
 |k::ks=>if x=k then 0 else ix x ks+1
theorem so {x:α}: ∀ {ks:List α},x∈ks→ix x ks<ks.length
 |k::ks,h=>by
  simp only[ix]
  split
  ·simp
  ·rename_i e
   have:=so ((List.mem_cons.1 h).resolve_left e)
   simp;omega
theorem pq {x:α}: ∀ {ks:List α},x∈ks→ks[ix x ks]? =some x
 |k::ks,h=>by
  simp only[ix]
  split
  ·rename_i e;simp[e]
  ·rename_i e
   simpa using pq ((List.mem_cons.1 h).resolve_left e)
theorem QI {x y:α} {ks:List α} (hx:x∈ks) (hy:y∈ks) (h:ix x ks=ix y ks):x=y:=by
 have h1:=pq hx
 rw[h,pq hy]at h1
 exact(Option.some.inj h1).symm
theorem iG {x:α} {ms:List α}: ∀ {ks:List α},x∈ks→ix x (ks++ms)=ix x ks
 |k::ks,h=>by
  simp only[List.cons_append,ix]
  split
  ·rfl
  ·rename_i e;rw[iG ((List.mem_cons.1 h).resolve_left e)]
theorem ep {x:α} {ms:List α}: ∀ {ks:List α},x∉ks→ix x (ks++ms)=ks.length+ix x ms
 | [],_=>by simp
 |k::ks,h=>by
  simp only[List.mem_cons,not_or]at h
  simp only[List.cons_append,ix,h.1,if_false,ep h.2,List.length_cons]
  omega
def add (ks:List α) (k:α):List α:=if k∈ks then ks else ks++[k]
def dd (l:List α):List α:=l.foldl add []
theorem sk {ks:List α} {k x:α}:x∈add ks k↔x∈ks∨x=k:=by
 unfold add
 split
 ·rename_i h
  exact⟨.inl,fun h'=>h'.elim id (fun e=>e▸h)⟩
 ·simp
theorem lr {ks:List α} {k:α} (h:ks.Nodup):(add ks k).Nodup:=by
 unfold add
 split
 ·exact h
 ·rename_i hk
  rw[List.nodup_append]
  refine⟨h,by simp,fun a ha b hb e=>?_⟩
  simp at hb;subst hb;subst e;exact hk ha
theorem gD (ks:List α) (k:α):ks<+:add ks k:=by
 unfold add
 split
 ·exact List.prefix_refl _
 ·exact List.prefix_append _ _
theorem eY: ∀(l ks:List α),ks<+:l.foldl add ks
 | [],ks=>List.prefix_refl _
 |k::l,ks=>(gD ks k).trans (eY l (add ks k))
theorem s8 (l m:List α):dd (l++m)=m.foldl add (dd l):=by simp[dd]
theorem zr (l:List α) (k:α):dd (l++[k])=add (dd l) k:=by simp[dd]
theorem ii {l:List α} {x:α}:x∈dd l↔x∈l:=by
 have: ∀(l ks:List α),x∈l.foldl add ks↔x∈ks∨x∈l:=by
  intro l
  induction l with
  |nil=>intro ks;simp
  |cons k l ih=>intro ks;rw[List.foldl_cons,ih,sk,List.mem_cons,or_assoc]
 rw[dd,this];simp
theorem fM {ks ms:List α} (h:ks<+:ms) {x:α} (hx:x∈ks):ix x ms=ix x ks:=by
 obtain⟨t,rfl⟩:=h
 exact iG hx
theorem kE {x:α}: ∀(ks:List α) (i:Nat),kw x (ks.zipIdx i)=if x∈ks then some (i+ix x ks)else none
 | [],i=>by simp[kw]
 |k::ks,i=>by
  simp only[List.zipIdx_cons,kw]
  by_cases e:x=k
  ·subst e;simp[ix]
  ·rw[if_neg e,kE ks (i+1)]
   by_cases h:x∈ks
   ·simp[h,e,ix];omega
   ·simp[h,e]
theorem lO (ks:List α) (i:Nat):(ks.zipIdx i).map Prod.fst=ks:=by
 induction ks generalizing i with
 |nil=>rfl
 |cons k ks ih=>simp[List.zipIdx_cons]
end
def dy (cs:List Nat) (r:List Int):List Nat:=r.map fun to=>cs.getD to.toNat 0
def wB (d:bY) (cs:List Nat) (s:Nat):List UInt8:=gf (cs.getD s 0) (dy cs (d.next.getD s []))
def gL (d:bY) (cs:List Nat):List (List UInt8):=(List.range d.next.length).map (wB d cs)
def gF (d:bY) (cs:List Nat):List Nat:=(gL d cs).map fun k=>ix k (dd (gL d cs))
theorem BO (l:List UInt8):cd (l++[32])=cd l++[Value.int .u8 32]:=by simp
theorem Ge {a j:Nat} {l:List Nat} (hj:j<l.length):gf a (l.take (j+1))=gf a (l.take j)++[32]++Lib.decDigits l[j]:=by
 rw[List.take_succ_eq_append_getElem hj,gf,gf,yF];simp
theorem yo: ∀ {l:List Nat},(∀x∈l,x<10000)→(ik l).length≤5*l.length
 | [],_=>by simp[ik]
 |a::l,h=>by
  have h1:=rE 3 a (by have:=h a (by simp);omega)
  have h2:=yo (l:=l) (fun x hx=>h x (by simp[hx]))
  simp only[ik,List.length_cons,List.length_append]
  omega
theorem Jv {a:Nat} {l:List Nat} (ha:a<10000) (h: ∀x∈l,x<10000):(gf a l).length≤4+5*l.length:=by
 have h1:=rE 3 a (by omega)
 have h2:=yo h
 simp only[gf,List.length_append]
 omega
theorem Dq {d:bY} {cs:List Nat} {k:Nat} (hk:k<d.next.length):(gL d cs).take (k+1)=(gL d cs).take k++[wB d cs k]:=by
 have hl:k<(gL d cs).length:=by simpa[gL]using hk
 rw[List.take_succ_eq_append_getElem hl]
 simp[gL]
theorem Mb {d:bY} {cs:List Nat} {k:Nat} (hk:k<d.next.length) (hc:k<cs.length):wB d cs k=gf cs[k] (dy cs d.next[k]):=by
 simp[wB,hk,hc]
theorem Ma {cs:List Nat} (h: ∀x∈cs,x<10000) {r:List Int}: ∀x∈dy cs r,x<10000:=by
 intro x hx
 obtain⟨to,_,rfl⟩:=List.mem_map.1 hx
 rw[List.getD_eq_getElem?_getD]
 cases e:cs[to.toNat]? with
 |none=>simp
 |some y=>exact h y (List.mem_of_getElem? e)
theorem s7 {α:Type} [DecidableEq α] (l:List α):(dd l).length≤l.length:=by
 have: ∀(l ks:List α),(l.foldl add ks).length≤ks.length+l.length:=by
  intro l
  induction l with
  |nil=>intro ks;simp
  |cons k l ih=>
   intro ks
   have h1:=ih (add ks k)
   have h2:(add ks k).length≤ks.length+1:=by unfold add;split<;>simp
   simp only[List.foldl_cons,List.length_cons]
   omega
 simpa[dd]using this l []
theorem Jx {d:bY} {cs:List Nat} {k s:Nat} (hs:s<k) (hk:k≤d.next.length):wB d cs s∈(gL d cs).take k:=by
 rw[gL,←List.map_take]
 refine List.mem_map_of_mem ?_
 rw[List.take_range]
 simp;omega
theorem eO (cs:List Nat) (r:List Int):(dy cs r).length=r.length:=List.length_map _
theorem wK {cs:List Nat} {r:List Int} {j:Nat} (hj:j<r.length) (h:r[j].toNat<cs.length):(dy cs r)[j]'(by rw[eO];exact hj)=cs[r[j].toNat]:=by
 simp[dy,h]
theorem Jw {cs:List Nat} {r:List Int} {a j:Nat} (hj:j<r.length) (h:r[j].toNat<cs.length):gf a ((dy cs r).take (j+1))=gf a ((dy cs r).take j)++[32]++Lib.decDigits cs[r[j].toNat]:=by
 rw[Ge (by rw[eO];exact hj),wK hj h]
def kU (d:bY):List Nat:=(List.range d.next.length).map fun s=>if d.aA.getD s false≠d.aA.getD 0 false then 1 else 0
def fj (d:bY):Nat→List Nat
 |0=>kU d
 |i+1=>gF d (fj d i)
theorem dw (d:bY) (i:Nat):(fj d i).length=d.next.length:=by
 cases i<;>simp[fj,kU,gF,gL]
theorem Dv {d:bY} {cs:List Nat} {x:Nat} (h:x∈gF d cs):x<d.next.length:=by
 obtain⟨k,hk,rfl⟩:=List.mem_map.1 h
 have h1:=so (ii.2 hk)
 have h2:=s7 (gL d cs)
 have h3:(gL d cs).length=d.next.length:=by simp[gL]
 omega
theorem JB {d:bY} (hn:d.next.length<10000) (i:Nat): ∀x∈fj d i,x<10000:=by
 cases i with
 |zero=>
  intro x hx
  obtain⟨s,_,rfl⟩:=List.mem_map.1 hx
  split<;>omega
 |succ i=>intro x hx;have:=Dv hx;omega
theorem q_ {d:bY} {i:Nat} (h:gF d (fj d i)=fj d i): ∀m,i≤m→fj d m=fj d i:=by
 intro m hm
 induction hm with
 |refl=>rfl
 |step _ ih=>rw[fj,ih,h]
def uo (tr:List UInt8→Nat→List UInt8) (L:Nat) (start:List UInt8):Nat→List (List UInt8)
 |0=>[start]
 |s+1=>((List.range L).map (tr ((uo tr L start s).getD s []))).foldl add (uo tr L start s)
def iM (tr:List UInt8→Nat→List UInt8) (L:Nat) (ks:List (List UInt8)) (s:Nat):List Int:=
 (List.range L).map fun x=>((ix (tr (ks.getD s []) x) ks:Nat):Int)
theorem fF {α:Type} [DecidableEq α] (f:Nat→α) (ks:List α) (x:Nat):((List.range (x+1)).map f).foldl add ks=add (((List.range x).map f).foldl add ks) (f x):=by
 rw[List.range_succ,List.map_append,List.foldl_append];rfl
theorem dj {α:Type} [DecidableEq α] {y:α}: ∀(l ks:List α),y∈l.foldl add ks↔y∈ks∨y∈l
 | [],ks=>by simp
 |k::l,ks=>by rw[List.foldl_cons,dj l,sk,List.mem_cons,or_assoc]
theorem jr {ks ms:List (List UInt8)} (h:ks<+:ms) {s:Nat} (hs:s<ks.length):ms.getD s []=ks.getD s []:=by
 obtain⟨t,rfl⟩:=h
 rw[List.getD_eq_getElem?_getD,List.getD_eq_getElem?_getD,List.getElem?_append_left hs]
structure nM (tr:List UInt8→Nat→List UInt8) (L:Nat) (ks:List (List UInt8)) (s:Nat) (rs:List (List Int)):Prop where
 len:rs.length=s
 le:s≤ks.length
 row: ∀i,i<s→rs[i]? =some (iM tr L ks i)
 mem: ∀i,i<s→ ∀x,x<L→tr (ks.getD i []) x∈ks
theorem zy {tr:List UInt8→Nat→List UInt8} {L:Nat} {ks ms:List (List UInt8)} (h:ks<+:ms) {s:Nat} (hs:s<ks.length) (hm: ∀x,x<L→tr (ks.getD s []) x∈ks):iM tr L ms s=iM tr L ks s:=by
 unfold iM
 apply List.map_congr_left
 intro x hx
 rw[jr h hs,fM h (hm x (List.mem_range.1 hx))]
theorem nM.snoc {tr:List UInt8→Nat→List UInt8} {L:Nat} {ks ms:List (List UInt8)} {s:Nat} {rs:List (List Int)} {ys:List Int} (h:nM tr L ks s rs) (hp:ks<+:ms) (hs:s<ks.length) (hy:ys=iM tr L ms s) (hm: ∀x,x<L→tr (ms.getD s []) x∈ms):nM tr L ms (s+1) (rs++[ys]):=by
 have Aa:=hp.length_le
 refine⟨by simp[h.len],by omega,fun i hi=>?_,fun i hi=>?_⟩
 ·by_cases e:i=s
  ·subst e;rw[List.getElem?_append_right (by rw[h.len];exact Nat.le_refl _),h.len,hy];simp
  ·rw[List.getElem?_append_left (by rw[h.len];omega),h.row i (by omega),zy hp (by omega) (h.mem i (by omega))]
 ·by_cases e:i=s
  ·subst e;exact hm
  ·intro x hx
   rw[jr hp (by omega)]
   exact hp.subset (h.mem i (by omega) x hx)
def EX (l:List UInt8):Nat:=l.foldl (fun a b=>a*10+(b.toNat-48)) 0
theorem th (u:Nat):EX (Lib.decDigits u)=u:=by
 induction u using Nat.strongRecOn with
 |_ u ih=>
  by_cases h:u<10
  ·rw[iK h]
   show 0*10+((UInt8.ofNat (48+u)).toNat-48)=u
   rw[gP h];omega
  ·rw[mq h,EX,List.foldl_append]
   have:=ih (u/10) (by omega)
   rw[EX]at this
   rw[this]
   show u/10*10+((UInt8.ofNat (48+u%10)).toNat-48)=u
   rw[gP (by omega)];omega
def dJ (d:bY) (o x:Nat):Nat:=((d.next.getD o []).getD x 0).toNat
def Ci (d:bY) (k:List UInt8) (x:Nat):List UInt8:=Lib.decDigits (dJ d (EX k) x)
def li (d:bY) (o:Nat):List Nat:=(List.range (2^d.vars.toNat)).map (dJ d o)
def ew (d:bY):Nat→List Nat
 |0=>[d.start.toNat]
 |s+1=>if s<(ew d s).length then(li d ((ew d s).getD s 0)).foldl add (ew d s)else ew d s
def order (d:bY):List Nat:=ew d d.next.length
def cO (d:bY):bY where
 vars:=d.vars
 start:=0
 next:=(order d).map fun o=>(li d o).map fun t=>((ix t (order d):Nat):Int)
 aA:=(order d).map fun o=>d.aA.getD o false
theorem Val.fB {d:bY} (hv:Val d) {o x:Nat} (ho:o<d.next.length) (hx:x<2^d.vars.toNat):dJ d o x<d.next.length∧ ∃h:o<d.next.length,∃rr:x<d.next[o].length,d.next[o][x]=(dJ d o x:Int):=by
 have hl:d.next[o].length=2^d.vars.toNat:=hv.len _ (List.getElem_mem ho)
 have rr:x<d.next[o].length:=by omega
 have h1:=hv.ok _ (List.getElem_mem ho) _ (List.getElem_mem rr)
 have e:dJ d o x=d.next[o][x].toNat:=by simp[dJ,ho,rr]
 exact⟨by omega,ho,rr,by omega⟩
theorem dR: ∀ {n:Nat} {l:List Nat},l.Nodup→(∀x∈l,x<n)→l.length≤n
 |0,l,_,hb=>by
  cases l with
  |nil=>simp
  |cons a l=>exact absurd (hb a (by simp)) (by omega)
 |n+1,l,h,hb=>by
  by_cases hn:n∈l
  ·have h1:=dR (n:=n) (h.erase n) fun x hx=>by
    have:=(List.Nodup.mem_erase_iff h).1 hx
    have:=hb x this.2
    omega
   rw[List.length_erase_of_mem hn]at h1
   omega
  ·have:=dR (n:=n) h fun x hx=>by
    have:=hb x hx
    have:x≠n:=fun e=>hn (e▸hx)
    omega
   omega
theorem EY {α β:Type} [DecidableEq α] [DecidableEq β] {f:α→β} (hf: ∀a b,f a=f b→a=b) (ks:List α) (k:α):(add ks k).map f=add (ks.map f) (f k):=by
 unfold add
 by_cases h:k∈ks
 ·rw[if_pos h,if_pos (List.mem_map_of_mem h)]
 ·rw[if_neg h,if_neg (fun hh=>by obtain⟨a,ha,e⟩:=List.mem_map.1 hh;exact h (hf _ _ e▸ha))]
  simp
theorem ql {α β:Type} [DecidableEq α] [DecidableEq β] {f:α→β} (hf: ∀a b,f a=f b→a=b): ∀(l ks:List α),(l.foldl add ks).map f=(l.map f).foldl add (ks.map f)
 | [],ks=>rfl
 |k::l,ks=>by rw[List.foldl_cons,ql hf l,EY hf,List.map_cons,List.foldl_cons]
theorem EZ (d:bY): ∀(N:Nat),(∀i,i<N→i<(uo (Ci d) (2^d.vars.toNat) (Lib.decDigits d.start.toNat) i).length)→
  uo (Ci d) (2^d.vars.toNat) (Lib.decDigits d.start.toNat) N=(ew d N).map Lib.decDigits
 |0,_=>rfl
 |N+1,h=>by
  have ih:=EZ d N fun i hi=>h i (by omega)
  have hN:=h N (by omega)
  rw[ih,List.length_map]at hN
  rw[uo,ih,ew,if_pos hN,ql nD]
  congr 1
  rw[li,List.map_map]
  apply List.map_congr_left
  intro x _
  have e:((ew d N).map Lib.decDigits).getD N []=Lib.decDigits ((ew d N).getD N 0):=by
   simp[hN]
  rw[e,Ci,th];rfl
theorem BW {d:bY} {N:Nat} (h:(ew d N).length=N): ∀m,N≤m→ew d m=ew d N:=by
 intro m hm
 induction hm with
 |refl=>rfl
 | @step m hm ih=>
  have ZN:N≤m:=hm
  rw[ew,ih,if_neg (by omega)]
theorem pu {d:bY} {N:Nat} (h:(ew d N).length=N) (hn:N≤d.next.length):order d=ew d N:=BW h _ hn
theorem QM (os:List Nat) (t:Nat):ix (Lib.decDigits t) (os.map Lib.decDigits)=ix t os:=by
 induction os with
 |nil=>rfl
 |cons o os ih=>
  simp only[List.map_cons,ix,ih]
  by_cases e:t=o
  ·simp[e]
  ·rw[if_neg e,if_neg (fun h=>e (nD _ _ h))]
theorem tZ: ∀ {a b:List Nat},a.map Lib.decDigits=b.map Lib.decDigits→a=b
 | [],[],_=>rfl
 | [],_::_,h=>by simp at h
 |_::_,[],h=>by simp at h
 |x::a,y::b,h=>by
  simp only[List.map_cons,List.cons.injEq]at h
  rw[nD x y h.1,tZ h.2]
theorem Gf {d:bY} {os:List Nat} {N:Nat} (kT: ∀i,i<N→i<(uo (Ci d) (2^d.vars.toNat) (Lib.decDigits d.start.toNat) i).length)
  (nq:uo (Ci d) (2^d.vars.toNat) (Lib.decDigits d.start.toNat) N=os.map Lib.decDigits) (ie:(uo (Ci d) (2^d.vars.toNat) (Lib.decDigits d.start.toNat) N).length=N) (Aa:os.length≤d.next.length):os=order d∧os.length=N:=by
 have h1:os.length=N:=by rw[←ie,nq,List.length_map]
 have h2:os=ew d N:=tZ (by rw[←nq,EZ d N kT])
 exact⟨by rw[pu (N:=N) (by rw[←h2];exact h1) (by omega)];exact h2,h1⟩
theorem JK {d:bY} {os:List Nat} {N:Nat} {rs:List (List Int)} (nq:uo (Ci d) (2^d.vars.toNat) (Lib.decDigits d.start.toNat) N=os.map Lib.decDigits) (hE:nM (Ci d) (2^d.vars.toNat) (uo (Ci d) (2^d.vars.toNat) (Lib.decDigits d.start.toNat) N) N rs) (ho:os=order d) (hN:os.length=N):rs=(cO d).next:=by
 apply List.ext_getElem?
 intro i
 by_cases hi:i<N
 ·rw[hE.row i hi,nq]
  have pC:i<os.length:=by omega
  have e:(os.map Lib.decDigits).getD i []=Lib.decDigits os[i]:=by simp[pC]
  simp only[cO,List.getElem?_map,←ho,List.getElem?_eq_getElem pC,Option.map_some,iM,e,Ci,th,li,List.map_map]
  refine congrArg some (List.map_congr_left fun x _=>?_)
  simp only[Function.comp_def,QM]
 ·rw[List.getElem?_eq_none (by rw[hE.len];omega),List.getElem?_eq_none (by simp[cO,←ho];omega)]
def fH (d:bY) (cs:List Nat):Nat→List (List Int)×List Bool
 |0=>([],[])
 |k+1=>if cs.getD k 0<(fH d cs k).1.length then fH d cs k else
   ((fH d cs k).1++[(dy cs (d.next.getD k [])).map fun c:Nat=>(c:Int)],(fH d cs k).2++[d.aA.getD k false])
def quo (d:bY) (cs:List Nat):bY where
 vars:=d.vars
 start:=((cs.getD d.start.toNat 0:Nat):Int)
 next:=(fH d cs d.next.length).1
 aA:=(fH d cs d.next.length).2
theorem iq (d:bY) (cs:List Nat): ∀k,(fH d cs k).1.length=(fH d cs k).2.length∧(fH d cs k).1.length≤k
 |0=>by simp[fH]
 |k+1=>by
  have ih:=iq d cs k
  rw[fH]
  split
  ·exact⟨ih.1,by omega⟩
  ·simp;omega
end Go.Lx

namespace Go.Lx
theorem nr {α:Type} {p:List α→Prop} (h0:p []) (h1: ∀l x,p l→p (l++[x])): ∀l,p l:=fun l=>by
 rw[←List.reverse_reverse l]
 generalize l.reverse=m
 induction m with
 |nil=>exact h0
 |cons a m ih=>rw[List.reverse_cons];exact h1 _ _ ih
abbrev cJ (d:bY):Nat:=2^d.vars.toNat
def runN (d:bY) (s:Nat) (w:List Nat):Nat:=w.foldl (dJ d) s
def dK (d:bY) (s:Nat):Bool:=d.aA.getD s false
def dst (d:bY) (s t:Nat) (w:List Nat):Prop:=dK d (runN d s w)≠dK d (runN d t w)
def Wd (d:bY) (w:List Nat):Prop:= ∀x∈w,x<cJ d
def code (w:List Nat):Nat:=w.foldl (fun a x=>a*65+(x+1)) 0
theorem eJ (d:bY) (s:Nat) (w:List Nat) (x:Nat):runN d s (w++[x])=dJ d (runN d s w) x:=by simp[runN]
end Go.Lx

namespace Go.Lx
open Go.RowKit
section
variable {P:Program} {r:Option Nat} {base:World} {n:Nat} {ρ:Env} {O:List Item} {Q:ju}
theorem Hb {x:Code} (K:Env→List Item→Prop) (h:T P r base n x (GU K Q) ρ O) (hk: ∀ρ O,K ρ O→Q .normal ρ O):T P r base n x Q ρ O:=
 h.mono fun e ρ O h=>by cases e<;>first|exact hk ρ O h|exact h
variable {t:TypeId} {p:String} {af:Array Edge} {g:Option (Nat×Bool)} {dst:Option Nat}
theorem Ak {x y:Operand} {T E U:TypeId} {b:Option Addr} {n c:Nat} (hu:P.underlying T=some (.slice E)) (hx:ev ρ x=.slice b n c) (hy:ev ρ y=.slice none 0 0):QT P base ⟨dst,.binOp .eql T x y U,t,p,af,g⟩ ρ O (.bool b.isNone):=fun w _=>by
 have h:(Op.equal T (.slice b n c) (.slice none 0 0)).run P w=.ok b.isNone w:=by
  show(Op.equalIn (9999+1) T _ _).run P w=_
  rw[Op.equalIn]
  cases b<;>simp[aV hu]
 simp[execOp,hx,hy,eqGuard,binOp,h]
theorem mm {x:Nat} (h:x<256):IntKind.u8.wrap (x:Int)=(x:Int):=by
 simp only[IntKind.wrap,IntKind.signed,IntKind.bits]
 simp
 omega
end
end Go.Lx

namespace Go.Lx
open Go.RowKit
theorem j7 {d:bY} (hv:Val d) {s:Nat} (hs:s<d.next.length): ∀w,Wd d w→runN d s w<d.next.length:=by
 refine nr (fun _=>hs) ?_
 intro w x ih hw
 rw[eJ]
 exact(hv.fB (ih fun y hy=>hw y (by simp[hy])) (hw x (by simp))).1
end Go.Lx
namespace Go.Lx
open Go.RowKit
end Go.Lx

namespace Go.Lx
section
variable {α β:Type} [DecidableEq α] [DecidableEq β]
def qW (l:List α):List Nat:=l.map fun k=>ix k (dd l)
theorem qX (l:List α):(qW l).length=l.length:=List.length_map _
theorem je {l:List α} {i:Nat} {a:α} (h:l[i]? =some a):(qW l)[i]? =some (ix a (dd l)):=by
 rw[qW,List.getElem?_map,h];rfl
theorem EO {l:List α} {i j:Nat} {a b:α} (hi:l[i]? =some a) (hj:l[j]? =some b):(qW l)[i]? =(qW l)[j]? ↔a=b:=by
 rw[je hi,je hj]
 refine⟨fun h=>QI (ii.2 (List.mem_of_getElem? hi)) (ii.2 (List.mem_of_getElem? hj)) (Option.some.inj h),fun h=>h▸rfl⟩
theorem gQ {l:List α} {a:α} (h:a∈l):dd (l++[a])=dd l:=by
 rw[zr,add,if_pos (ii.2 h)]
theorem gR {l:List α} {a:α} (h:a∉l):dd (l++[a])=dd l++[a]:=by
 rw[zr,add,if_neg (fun hh=>h (ii.1 hh))]
theorem F5: ∀zs:List (α×β),(∀p∈zs,∀q∈zs,p.1=q.1↔p.2=q.2)→
  (dd (zs.map Prod.fst)).length=(dd (zs.map Prod.snd)).length∧ ∀p∈zs,ix p.1 (dd (zs.map Prod.fst))=ix p.2 (dd (zs.map Prod.snd)):=by
 refine nr (fun _=>⟨F,fun p hp=>by simp at hp⟩) ?_
 intro zs z ih h
 obtain⟨h1,h2⟩:=ih fun p hp q hq=>h p (List.mem_append_left _ hp) q (List.mem_append_left _ hq)
 have hz:z∈zs++[z]:=by simp
 have uf:z.1∈zs.map Prod.fst↔z.2∈zs.map Prod.snd:=by
  constructor
  ·intro hm
   obtain⟨p,hp,e⟩:=List.mem_map.1 hm
   exact List.mem_map.2 ⟨p,hp,((h p (List.mem_append_left _ hp) z hz).1 e)⟩
  ·intro hm
   obtain⟨p,hp,e⟩:=List.mem_map.1 hm
   exact List.mem_map.2 ⟨p,hp,((h p (List.mem_append_left _ hp) z hz).2 e)⟩
 simp only[List.map_append,List.map_cons,List.map_nil]
 by_cases hm:z.1∈zs.map Prod.fst
 ·rw[gQ hm,gQ (uf.1 hm)]
  refine⟨h1,fun p hp=>?_⟩
  rcases List.mem_append.1 hp with hp|hp
  ·exact h2 p hp
  ·simp only[List.mem_singleton]at hp
   subst hp
   obtain⟨q,hq,e⟩:=List.mem_map.1 hm
   have e2:=(h q (List.mem_append_left _ hq) p hz).1 e
   rw[←e,←e2];exact h2 q hq
 ·have uu:z.2∉zs.map Prod.snd:=fun hh=>hm (uf.2 hh)
  rw[gR hm,gR uu]
  refine⟨by simp[h1],fun p hp=>?_⟩
  rcases List.mem_append.1 hp with hp|hp
  ·rw[iG (ii.2 (List.mem_map_of_mem hp)),iG (ii.2 (List.mem_map_of_mem hp))]
   exact h2 p hp
  ·simp only[List.mem_singleton]at hp
   subst hp
   rw[ep (fun hh=>hm (ii.1 hh)),ep (fun hh=>uu (ii.1 hh)),h1]
   simp[ix]
theorem Jj: ∀zs:List (α×β),(∀p∈zs,∀q∈zs,p.1=q.1→p.2=q.2)→
  (dd (zs.map Prod.snd)).length≤(dd (zs.map Prod.fst)).length∧((dd (zs.map Prod.snd)).length=(dd (zs.map Prod.fst)).length→ ∀p∈zs,∀q∈zs,p.2=q.2→p.1=q.1):=by
 refine nr (fun _=>⟨Nat.le_refl _,fun _ p hp=>by simp at hp⟩) ?_
 intro zs z ih h
 obtain⟨h1,h2⟩:=ih fun p hp q hq=>h p (List.mem_append_left _ hp) q (List.mem_append_left _ hq)
 have hz:z∈zs++[z]:=by simp
 simp only[List.map_append,List.map_cons,List.map_nil]
 by_cases hm:z.1∈zs.map Prod.fst
 ·obtain⟨q,hq,e⟩:=List.mem_map.1 hm
  have e2:=h q (List.mem_append_left _ hq) z hz e
  have uu:z.2∈zs.map Prod.snd:=List.mem_map.2 ⟨q,hq,e2⟩
  rw[gQ hm,gQ uu]
  refine⟨h1,fun he p hp p' Q9 ee=>?_⟩
  have Q8:=h2 he
  have lift: ∀p∈zs++[z],∃p0∈zs,p0.1=p.1∧p0.2=p.2:=fun p hp=>by
   rcases List.mem_append.1 hp with hp|hp
   ·exact⟨p,hp,F,F⟩
   ·simp only[List.mem_singleton]at hp;subst hp;exact⟨q,hq,e,e2⟩
  obtain⟨a,ha,a1,a2⟩:=lift p hp
  obtain⟨b,hb,b1,b2⟩:=lift p' Q9
  rw[←a1,←b1];exact Q8 a ha b hb (by rw[a2,b2,ee])
 ·rw[gR hm]
  by_cases uu:z.2∈zs.map Prod.snd
  ·rw[gQ uu]
   refine⟨by simp;omega,fun he=>?_⟩
   simp at he;omega
  ·rw[gR uu]
   refine⟨by simp;omega,fun he p hp p' Q9 ee=>?_⟩
   have Q8:=h2 (by simpa using he)
   rcases List.mem_append.1 hp with gp|gp
   ·rcases List.mem_append.1 Q9 with QJ|QJ
    ·exact Q8 p gp p' QJ ee
    ·have e:=List.mem_singleton.1 QJ
     exact(uu (List.mem_map.2 ⟨p,gp,by rw[ee,e]⟩)).elim
   ·have e:=List.mem_singleton.1 gp
    rcases List.mem_append.1 Q9 with QJ|QJ
    ·exact(uu (List.mem_map.2 ⟨p',QJ,by rw[←ee,e]⟩)).elim
    ·rw[e,List.mem_singleton.1 QJ]
theorem lW: ∀ {l:List α} {m:List β},l.length=m.length→(l.zip m).map Prod.fst=l∧(l.zip m).map Prod.snd=m
 | [],[],_=>⟨F,F⟩
 |a::l,b::m,h=>by
  obtain⟨h1,h2⟩:=lW (l:=l) (m:=m) (by simpa using h)
  simp[h1,h2]
theorem zu {l:List α} {m:List β} (h:l.length=m.length) {p:α×β} (hp:p∈l.zip m): ∃i:Nat,l[i]? =some p.1∧m[i]? =some p.2:=by
 obtain⟨i,hi⟩:=List.getElem?_of_mem hp
 refine⟨i,?_,?_⟩
 ·have:=congrArg (Option.map Prod.fst) hi
  rw[←List.getElem?_map,(lW h).1]at this;simpa using this
 ·have:=congrArg (Option.map Prod.snd) hi
  rw[←List.getElem?_map,(lW h).2]at this;simpa using this
theorem yg {l:List α} {m:List β} (hl:l.length=m.length) (h: ∀(i j:Nat) (a b:α) (a' b':β),l[i]? =some a→l[j]? =some b→m[i]? =some a'→m[j]? =some b'→(a=b↔a'=b')):qW l=qW m∧(dd l).length=(dd m).length:=by
 have h0:=F5 (l.zip m) fun p hp q hq=>by
  obtain⟨i,a1,a2⟩:=zu hl hp
  obtain⟨j,b1,b2⟩:=zu hl hq
  exact h i j _ _ _ _ a1 b1 a2 b2
 rw[(lW hl).1,(lW hl).2]at h0
 refine⟨?_,h0.1⟩
 apply List.ext_getElem?
 intro i
 by_cases hi:i<l.length
 ·have Fj:i<m.length:=by omega
  rw[je (List.getElem?_eq_getElem hi),je (List.getElem?_eq_getElem Fj)]
  have:(l[i],m[i])∈l.zip m:=by
   apply List.mem_of_getElem? (i:=i)
   rw[List.getElem?_zip_eq_some]
   exact⟨List.getElem?_eq_getElem hi,List.getElem?_eq_getElem Fj⟩
  exact congrArg some (h0.2 _ this)
 ·rw[List.getElem?_eq_none (by rw[qX];omega),List.getElem?_eq_none (by rw[qX];omega)]
end
def jv (d:bY):Nat→Nat→Nat→Bool
 |0,s,t=>dK d s !=dK d t
 |k+1,s,t=>jv d k s t||(List.range (cJ d)).any fun x=>jv d k (dJ d s x) (dJ d t x)
theorem pT (d:bY): ∀k s t,jv d k s t=true↔ ∃u,Wd d u∧u.length≤k∧dst d s t u
 |0,s,t=>by
  simp only[jv,bne_iff_ne]
  constructor
  ·exact fun h=>⟨[],fun x hx=>by simp at hx,Nat.le_refl _,h⟩
  ·rintro⟨u,_,hl,h⟩
   have:u=[]:=List.eq_nil_of_length_eq_zero (by omega)
   subst this;exact h
 |k+1,s,t=>by
  simp only[jv,Bool.or_eq_true,List.any_eq_true,List.mem_range,pT d k]
  constructor
  ·rintro(⟨u,h1,h2,h3⟩|⟨x,hx,u,h1,h2,h3⟩)
   ·exact⟨u,h1,by omega,h3⟩
   ·refine⟨x::u,fun y hy=>?_,by simp;omega,h3⟩
    rcases List.mem_cons.1 hy with rfl|hy
    ·exact hx
    ·exact h1 y hy
  ·rintro⟨u,h1,h2,h3⟩
   cases u with
   |nil=>exact .inl ⟨[],h1,by simp,h3⟩
   |cons x u=>exact .inr ⟨x,h1 x (by simp),u,fun y hy=>h1 y (by simp[hy]),by simpa using h2,h3⟩
theorem Jk (d:bY) (k s:Nat):jv d k s s=false:=by
 rw[Bool.eq_false_iff]
 intro h
 obtain⟨u,_,_,h⟩:=(pT d k s s).1 h
 exact h F
theorem mC {d:bY} (hv:Val d) {s x:Nat} (hs:s<d.next.length) (hx:x<cJ d):dJ d s x<d.next.length:=(hv.fB hs hx).1
theorem Jl {d:bY} (hv:Val d) {cs:List Nat} (mj:cs.length=d.next.length) {s t:Nat} (hs:s<d.next.length) (ht:t<d.next.length):
  wB d cs s=wB d cs t↔cs.getD s 0=cs.getD t 0∧ ∀x,x<cJ d→cs.getD (dJ d s x) 0=cs.getD (dJ d t x) 0:=by
 have Xz:(d.next.getD s []).length=cJ d:=by simp[hs];exact hv.len _ (List.getElem_mem hs)
 have eU:(d.next.getD t []).length=cJ d:=by simp[ht];exact hv.len _ (List.getElem_mem ht)
 have row: ∀s,(d.next.getD s []).length=cJ d→ ∀x,x<cJ d→(dy cs (d.next.getD s []))[x]? =some (cs.getD (dJ d s x) 0):=by
  intro s hl x hx
  have rr:x<(d.next.getD s []).length:=by omega
  have e:(d.next.getD s []).getD x 0=(d.next.getD s [])[x]:=by rw[List.getD_eq_getElem?_getD,List.getElem?_eq_getElem rr];rfl
  rw[dy,List.getElem?_map,List.getElem?_eq_getElem rr,dJ,e]
  rfl
 constructor
 ·intro h
  obtain⟨h1,h2⟩:=He h
  refine⟨h1,fun x hx=>?_⟩
  have a:=row s Xz x hx
  rw[h2,row t eU x hx]at a
  exact(Option.some.inj a).symm
 ·rintro⟨h1,h2⟩
  unfold wB
  rw[h1]
  congr 1
  apply List.ext_getElem?
  intro x
  by_cases hx:x<cJ d
  ·rw[row s Xz x hx,row t eU x hx,h2 x hx]
  ·rw[List.getElem?_eq_none (by rw[eO];omega),List.getElem?_eq_none (by rw[eO];omega)]
theorem tW (d:bY) (cs:List Nat):gF d cs=qW (gL d cs):=rfl
theorem lu {d:bY} {cs:List Nat} {s:Nat} (hs:s<d.next.length):(gL d cs)[s]? =some (wB d cs s):=by simp[gL,hs]
theorem qY {d:bY} {s:Nat} (hs:s<d.next.length):(kU d)[s]? =some (if dK d s≠dK d 0 then 1 else 0):=by
 simp[kU,hs,dK]
theorem io {l:List Nat} {i a:Nat} (h:l[i]? =some a):l.getD i 0=a:=by rw[List.getD_eq_getElem?_getD,h];rfl
theorem mE {d:bY} (hv:Val d): ∀k s t,s<d.next.length→t<d.next.length→((fj d k).getD s 0=(fj d k).getD t 0↔jv d k s t=false)
 |0,s,t,hs,ht=>by
  rw[fj,io (qY hs),io (qY ht),jv]
  cases dK d s<;>cases dK d t<;>cases dK d 0<;>simp
 |k+1,s,t,hs,ht=>by
  have ih:=mE hv k
  rw[fj,tW]
  have h1:=EO (lu (cs:=fj d k) hs) (lu (cs:=fj d k) ht)
  have e1:(qW (gL d (fj d k))).getD s 0=(qW (gL d (fj d k))).getD t 0↔(qW (gL d (fj d k)))[s]? =(qW (gL d (fj d k)))[t]? :=by
   rw[je (lu hs),je (lu ht),io (je (lu hs)),io (je (lu ht))]
   simp
  rw[e1,h1,Jl hv (dw d k) hs ht,ih s t hs ht,jv,Bool.or_eq_false_iff]
  refine and_congr Iff.rfl ?_
  rw[List.any_eq_false]
  constructor
  ·intro h x hx
   have rr:=List.mem_range.1 hx
   rw[Bool.not_eq_true,←ih _ _ (mC hv hs rr) (mC hv ht rr)]
   exact h x rr
  ·intro h x hx
   rw[ih _ _ (mC hv hs hx) (mC hv ht hx),←Bool.not_eq_true]
   exact h x (List.mem_range.2 hx)
end Go.Lx

namespace Go.Lx
section
variable {α:Type} [DecidableEq α]
theorem L3 (l:List α):qW (qW l)=qW l:=by
 refine(yg (by rw[qX]) ?_).1
 intro i j a b a' b' hi hj pC uV
 have:=EO pC uV
 rw[hi,hj]at this
 simpa using this
def first (p:Nat→Bool):Nat→Nat
 |0=>0
 |n+1=>if first p n<n then first p n else if p n then n else n+1
theorem wC (p:Nat→Bool): ∀n,first p n≤n
 |0=>Nat.le_refl _
 |n+1=>by
  have:=wC p n
  rw[first]
  split
  ·omega
  ·split<;>omega
theorem qZ (p:Nat→Bool): ∀n,(first p n<n→p (first p n)=true)∧ ∀t,t<first p n→p t=false
 |0=>⟨fun h=>absurd h (by omega),fun t h=>absurd h (by simp[first])⟩
 |n+1=>by
  obtain⟨h1,h2⟩:=qZ p n
  have Aa:=wC p n
  rw[first]
  by_cases h:first p n<n
  ·rw[if_pos h];exact⟨fun _=>h1 h,h2⟩
  ·have e:first p n=n:=by omega
   rw[if_neg h]
   by_cases hp:p n=true
   ·rw[if_pos hp];exact⟨fun _=>hp,fun t ht=>h2 t (by omega)⟩
   ·rw[if_neg hp]
    refine⟨fun h=>absurd h (by omega),fun t ht=>?_⟩
    by_cases et:t=n
    ·subst et;simpa using hp
    ·exact h2 t (by omega)
theorem BH {p:Nat→Bool} {n t:Nat} (Aa:t≤n) (h1:t<n→p t=true) (h2: ∀t',t'<t→p t'=false):first p n=t:=by
 obtain⟨g1,g2⟩:=qZ p n
 have hl:=wC p n
 rcases Nat.lt_trichotomy (first p n) t with h|h|h
 ·have:=h2 _ h;rw[g1 (by omega)]at this;cases this
 ·exact h
 ·have:=g2 _ h;rw[h1 (by omega)]at this;cases this
def q9 (e:Nat→Nat→Bool):Nat→List Nat×Nat
 |0=>([],0)
 |s+1=>if first (e s) s<s then((q9 e s).1++[(q9 e s).1.getD (first (e s) s) 0],(q9 e s).2)else((q9 e s).1++[(q9 e s).2],(q9 e s).2+1)
theorem BI {e:Nat→Nat→Bool} {l:List α} (he: ∀(s t:Nat) (a b:α),l[s]? =some a→l[t]? =some b→(e s t=true↔a=b)): ∀s,s≤l.length→q9 e s=(qW (l.take s),(dd (l.take s)).length)
 |0,_=>by simp[q9,qW,dd]
 |s+1,hs=>by
  have Gl:s<l.length:=by omega
  have ih:=BI he s (by omega)
  have hg:=List.getElem?_eq_getElem Gl
  obtain⟨f1,f2⟩:=qZ (e s) s
  rw[q9,ih,List.take_succ_eq_append_getElem Gl]
  by_cases hf:first (e s) s<s
  ·have qp:first (e s) s<l.length:=by omega
   have Y4:=List.getElem?_eq_getElem qp
   have DB:l[s]=l[first (e s) s]:=(he _ _ _ _ hg Y4).1 (f1 hf)
   have Y5:(l.take s)[first (e s) s]? =some l[first (e s) s]:=by rw[List.getElem?_take_of_lt hf];exact Y4
   have hm:l[s]∈l.take s:=by rw[DB];exact List.mem_of_getElem? Y5
   rw[if_pos hf,gQ hm]
   simp only[qW,List.map_append,List.map_cons,List.map_nil,gQ hm]
   have:(qW (l.take s)).getD (first (e s) s) 0=ix l[s] (dd (l.take s)):=by
    rw[List.getD_eq_getElem?_getD,je Y5,DB];rfl
   rw[show(List.map (fun k=>ix k (dd (List.take s l))) (List.take s l))=qW (l.take s)from F,this]
  ·have hm:l[s]∉l.take s:=by
    intro hm
    obtain⟨i,hi⟩:=List.getElem?_of_mem hm
    have his:i<s:=by have:=(List.getElem?_eq_some_iff.1 hi).1;rw[List.length_take]at this;omega
    rw[List.getElem?_take_of_lt his]at hi
    have:=(he _ _ _ _ hg hi).2 F
    rw[f2 i (by omega)]at this;cases this
   rw[if_neg hf,gR hm]
   simp only[qW,List.map_append,List.map_cons,List.map_nil,gR hm,List.length_append,List.length_cons,List.length_nil]
   congr 1
   ·congr 1
    ·apply List.map_congr_left
     intro a ha
     rw[iG (ii.2 ha)]
    ·rw[ep (fun hh=>hm (ii.1 hh))];simp[ix]
end
theorem tX: ∀(l:List Nat),(∀x∈l,x≤1)→l.foldl add [0,1]=[0,1]∧(l.foldl add [0]=[0]∧1∉l∨l.foldl add [0]=[0,1]∧1∈l)
 | [],_=>by simp
 |x::l,h=>by
  obtain⟨h1,h2⟩:=tX l fun y hy=>h y (by simp[hy])
  have hx:=h x (by simp)
  have:x=0∨x=1:=by omega
  rcases this with rfl|rfl
  ·refine⟨?_,?_⟩
   ·rw[List.foldl_cons,show add [0,1] 0=[0,1] by decide];exact h1
   ·rw[List.foldl_cons,show add [0] 0=[0] by decide]
    rcases h2 with⟨a,b⟩|⟨a,b⟩
    ·exact .inl ⟨a,by simp[b]⟩
    ·exact .inr ⟨a,by simp[b]⟩
  ·refine⟨?_,?_⟩
   ·rw[List.foldl_cons,show add [0,1] 1=[0,1] by decide];exact h1
   ·rw[List.foldl_cons,show add [0] 1=[0,1] by decide]
    exact .inr ⟨h1,by simp⟩
theorem UX {l:List Nat} (h0:l.headD 0=0) (h: ∀x∈l,x≤1):qW l=l:=by
 cases l with
 |nil=>rfl
 |cons a l=>
  simp at h0
  subst h0
  have e:dd (0::l)=l.foldl add [0]:=by simp[dd,add]
  have h2:=(tX l fun y hy=>h y (by simp[hy])).2
  rw[qW,e]
  conv=>rhs;rw[←List.map_id (0::l)]
  apply List.map_congr_left
  intro x hx
  have xI:=h x hx
  have:x=0∨x=1:=by omega
  rcases this with rfl|rfl
  ·rcases h2 with⟨a,b⟩|⟨a,b⟩<;>rw[a]<;>decide
  ·rcases h2 with⟨a,b⟩|⟨a,b⟩
   ·simp at hx;exact absurd hx b
   ·rw[a];decide
theorem mF (d:bY): ∀k,qW (fj d k)=fj d k
 |0=>by
  refine UX ?_ ?_
  ·rw[fj]
   cases e:(kU d)with
   |nil=>rfl
   |cons a l=>
    have:(kU d)[0]? =some a:=by rw[e];rfl
    have hn:0<d.next.length:=by
     have:(kU d).length=d.next.length:=by simp[kU]
     rw[e]at this;simp at this;omega
    rw[qY hn]at this
    simpa using this.symm
  ·intro x hx
   obtain⟨s,_,rfl⟩:=List.mem_map.1 hx
   split<;>omega
 |k+1=>by rw[fj,tW,L3]
theorem BJ {d:bY} {k m s t:Nat} (h:k≤m) (hd:jv d k s t=true):jv d m s t=true:=by
 obtain⟨u,h1,h2,h3⟩:=(pT d k s t).1 hd
 exact(pT d m s t).2 ⟨u,h1,by omega,h3⟩
theorem EP {d:bY} {k s:Nat} (hs:s<d.next.length):(fj d k)[s]? =some ((fj d k).getD s 0):=by
 have:s<(fj d k).length:=by rw[dw];exact hs
 rw[List.getD_eq_getElem?_getD,List.getElem?_eq_getElem this];rfl
def zv (d:bY) (k:Nat):Nat:=(dd (fj d k)).length
theorem F6 {d:bY} (hv:Val d) (k:Nat):zv d k≤zv d (k+1)∧(zv d k=zv d (k+1)→fj d (k+1)=fj d k):=by
 have hl:(fj d (k+1)).length=(fj d k).length:=by rw[dw,dw]
 have at_: ∀p∈(fj d (k+1)).zip (fj d k),∃s,s<d.next.length∧(fj d (k+1)).getD s 0=p.1∧(fj d k).getD s 0=p.2:=fun p hp=>by
  obtain⟨i,a1,a2⟩:=zu hl hp
  refine⟨i,?_,io a1,io a2⟩
  have:=(List.getElem?_eq_some_iff.1 a2).1
  rwa[dw]at this
 have h:=Jj ((fj d (k+1)).zip (fj d k)) fun p hp q hq e=>by
  obtain⟨s,hs,a1,a2⟩:=at_ p hp
  obtain⟨t,ht,b1,b2⟩:=at_ q hq
  rw[←a1,←b1,mE hv _ s t hs ht]at e
  rw[←a2,←b2,mE hv _ s t hs ht,←Bool.not_eq_true]
  intro hh
  rw[BJ (Nat.le_succ k) hh]at e;cases e
 rw[(lW hl).1,(lW hl).2]at h
 refine⟨h.1,fun e=>?_⟩
 have h2:=h.2 e
 rw[←mF d (k+1),←mF d k]
 refine(yg hl ?_).1
 intro i j a b a' b' hi hj pC uV
 have hm: ∀ {i a a'},(fj d (k+1))[i]? =some a→(fj d k)[i]? =some a'→(a,a')∈(fj d (k+1)).zip (fj d k):=fun {i a a'} x y=>by
  apply List.mem_of_getElem? (i:=i)
  rw[List.getElem?_zip_eq_some]
  exact⟨x,y⟩
 refine⟨fun e=>?_,h2 _ (hm hi pC) _ (hm hj uV)⟩
 have wL:i<d.next.length:=by have:=(List.getElem?_eq_some_iff.1 pC).1;rwa[dw]at this
 have Y6:j<d.next.length:=by have:=(List.getElem?_eq_some_iff.1 uV).1;rwa[dw]at this
 rw[←io hi,←io hj,mE hv _ i j wL Y6]at e
 rw[←io pC,←io uV,mE hv _ i j wL Y6,←Bool.not_eq_true]
 intro hh
 rw[BJ (Nat.le_succ k) hh]at e;cases e
theorem L4 (d:bY) (k:Nat):zv d k≤d.next.length:=by
 have:=s7 (fj d k)
 rw[dw]at this;exact this
theorem Jm {d:bY} (hv:Val d) (k:Nat):0<zv d k:=by
 have h:(fj d k).getD 0 0∈dd (fj d k):=ii.2 (List.mem_of_getElem? (EP hv.n0))
 exact List.length_pos_of_mem h
theorem BK {d:bY} (hv:Val d): ∀k,(∃j,j<k∧fj d (j+1)=fj d j)∨k+1≤zv d k
 |0=>.inr (Jm hv 0)
 |k+1=>by
  rcases BK hv k with⟨j,hj,h⟩|h
  ·exact .inl ⟨j,by omega,h⟩
  ·obtain⟨h1,h2⟩:=F6 hv k
   by_cases e:zv d k=zv d (k+1)
   ·exact .inl ⟨k,by omega,h2 e⟩
   ·exact .inr (by omega)
theorem BL {d:bY} (hv:Val d): ∀m,d.next.length≤m→fj d m=fj d d.next.length:=by
 intro m hm
 rcases BK hv d.next.length with⟨j,hj,h⟩|h
 ·have hs:gF d (fj d j)=fj d j:=by rw[←fj];exact h
  rw[q_ hs m (by omega),q_ hs d.next.length (by omega)]
 ·have:=L4 d d.next.length;omega
theorem L5 {d:bY} (hv:Val d) {s t:Nat} (hs:s<d.next.length) (ht:t<d.next.length):
  (fj d d.next.length).getD s 0=(fj d d.next.length).getD t 0↔ ∀u,Wd d u→ ¬dst d s t u:=by
 constructor
 ·intro h u hu hd
  have h2:(fj d (max u.length d.next.length)).getD s 0=(fj d (max u.length d.next.length)).getD t 0:=by rw[BL hv _ (by omega)];exact h
  rw[mE hv _ s t hs ht,←Bool.not_eq_true]at h2
  exact h2 ((pT d _ s t).2 ⟨u,hu,by omega,hd⟩)
 ·intro h
  rw[mE hv _ s t hs ht,←Bool.not_eq_true]
  intro hh
  obtain⟨u,h1,_,h3⟩:=(pT d _ s t).1 hh
  exact h u h1 h3
theorem Jn {d:bY} (hv:Val d) (k:Nat):(q9 (fun s t=>!jv d k s t) d.next.length).1=fj d k:=by
 have h:=BI (e:=fun s t=>!jv d k s t) (l:=fj d k) (fun s t a b hs ht=>by
  have Gl:s<d.next.length:=by have:=(List.getElem?_eq_some_iff.1 hs).1;rwa[dw]at this
  have Gm:t<d.next.length:=by have:=(List.getElem?_eq_some_iff.1 ht).1;rwa[dw]at this
  rw[←io hs,←io ht,mE hv k s t Gl Gm];simp) d.next.length (by rw[dw];exact Nat.le_refl _)
 rw[h]
 show qW ((fj d k).take d.next.length)=_
 rw[List.take_of_length_le (by rw[dw];exact Nat.le_refl _),mF]
theorem sq {d:bY} {α:Type} [DecidableEq α] {l:List α} {cs:List Nat} (hl:l.length=d.next.length) (uc:cs=qW l): ∀k,k≤d.next.length→(fH d cs k).1.length=(dd (l.take k)).length
 |0,_=>by simp[fH,dd]
 |k+1,hk=>by
  have XA:k<l.length:=by omega
  have ih:=sq hl uc k (by omega)
  have hg:=List.getElem?_eq_getElem XA
  have hc:cs.getD k 0=ix l[k] (dd l):=by rw[uc];exact io (je hg)
  have hp:dd (l.take k)<+:dd l:=by
   conv=>rhs;rw[←List.take_append_drop k l]
   rw[s8];exact eY _ _
  rw[fH,ih,hc,List.take_succ_eq_append_getElem XA]
  by_cases hm:l[k]∈l.take k
  ·rw[gQ hm,fM hp (ii.2 hm),if_pos (so (ii.2 hm)),ih]
  ·have Ay:dd (l.take k)++[l[k]]<+:dd l:=by
    rw[←gR hm,←List.take_succ_eq_append_getElem XA]
    conv=>rhs;rw[←List.take_append_drop (k+1) l]
    rw[s8];exact eY _ _
   have e:ix l[k] (dd l)=(dd (l.take k)).length:=by
    rw[fM Ay (by simp),ep (fun hh=>hm (ii.1 hh))];simp[ix]
   rw[gR hm,e,if_neg (Nat.lt_irrefl _)]
   simp[ih]
theorem pU {d:bY} (cs:List Nat): ∀k,∀r∈(fH d cs k).1,∃s,s<k∧r=(dy cs (d.next.getD s [])).map fun c:Nat=>(c:Int)
 |0,r,h=>by simp[fH]at h
 |k+1,r,h=>by
  rw[fH]at h
  split at h
  ·obtain⟨s,hs,e⟩:=pU cs k r h;exact⟨s,by omega,e⟩
  ·rcases List.mem_append.1 h with h|h
   ·obtain⟨s,hs,e⟩:=pU cs k r h;exact⟨s,by omega,e⟩
   ·exact⟨k,by omega,List.mem_singleton.1 h⟩
theorem EQ {d:bY} {cs:List Nat} (hl:cs.length=d.next.length) (hc:qW cs=cs):(quo d cs).next.length=(dd cs).length:=by
 show(fH d cs d.next.length).1.length=_
 rw[sq (l:=cs) hl hc.symm _ (Nat.le_refl _),List.take_of_length_le (by omega)]
theorem Jo {cs:List Nat} (hc:qW cs=cs) {i c:Nat} (h:cs[i]? =some c):c<(dd cs).length:=by
 have h2:=je h
 rw[hc,h]at h2
 have:=so (ii.2 (List.mem_of_getElem? h))
 have e:=Option.some.inj h2
 omega
theorem ES {d:bY} (hv:Val d) {cs:List Nat} (hl:cs.length=d.next.length) (hc:qW cs=cs):Val (quo d cs):=by
 have hq:=EQ hl hc
 have eU: ∀i,i<d.next.length→cs.getD i 0<(dd cs).length:=fun i hi=>by
  have pC:i<cs.length:=by omega
  have:=List.getElem?_eq_getElem pC
  rw[io this];exact Jo hc this
 have h1:=(iq d cs d.next.length)
 refine⟨hv.v0,hv.v6,?_,?_,?_,?_,?_,?_⟩
 ·rw[hq];have:=eU 0 hv.n0;omega
 ·exact h1.1.symm
 ·exact Int.natCast_nonneg _
 ·rw[hq]
  show((cs.getD d.start.toNat 0:Nat):Int)<_
  have:=eU d.start.toNat (by have:=hv.s0;have:=hv.s1;omega)
  omega
 ·intro r hr
  obtain⟨s,hs,rfl⟩:=pU cs _ r hr
  rw[List.length_map,eO]
  simp[hs]
  exact hv.len _ (List.getElem_mem hs)
 ·intro r hr x hx
  rw[hq]
  obtain⟨s,hs,rfl⟩:=pU cs _ r hr
  obtain⟨c,Q7,rfl⟩:=List.mem_map.1 hx
  refine⟨Int.natCast_nonneg _,?_⟩
  obtain⟨to,oX,rfl⟩:=List.mem_map.1 Q7
  simp[hs]at oX
  have:=hv.ok _ (List.getElem_mem hs) to oX
  have:=eU to.toNat (by omega)
  omega
theorem F7 {d:bY} (hv:Valid d) {cs:List Nat} (hl:cs.length=d.next.length) (hc:qW cs=cs):Valid (quo d cs):=
 ⟨ES hv hl hc,by have:=(iq d cs d.next.length).2;have:=hv.n4;show(fH d cs d.next.length).1.length≤_;omega⟩
theorem L6 {d:bY} (hv:Val d) (k:Nat):Val (quo d (fj d k))∧(quo d (fj d k)).next.length≤d.next.length:=
 ⟨ES hv (dw d k) (mF d k),(iq d _ _).2⟩
theorem zw {d:bY} (hv:Valid d) (k:Nat):Valid (quo d (fj d k))∧(quo d (fj d k)).next.length≤d.next.length:=
 ⟨F7 hv (dw d k) (mF d k),(iq d _ _).2⟩
end Go.Lx

namespace Go.Lx
open Go.RowKit
structure jY where
 b:Option Addr
 c:Nat
 xs:List Bool
def jY.val (q:jY):Value:=.slice q.b q.xs.length q.c
def jY.lZ (E:TypeId) (q:jY):Item:=ak q.b q.c E 1 (aU q.xs)
abbrev fh (qs:List jY):List Value:=qs.map jY.val
abbrev eW (E:TypeId) (qs:List jY):List Item:=qs.map (jY.lZ E)
def gY (f:Nat→Bool) (n t:Nat):List Bool:=(List.range n).map fun i=>if i<t then f i else false
theorem fz (f:Nat→Bool) (n t:Nat):(gY f n t).length=n:=by simp[gY]
theorem s9 {f:Nat→Bool} {n t i:Nat} (h:i<n):(gY f n t)[i]? =some (if i<t then f i else false):=by simp[gY,h]
theorem vj (f:Nat→Bool) (n:Nat):gY f n 0=List.replicate n false:=by
 apply List.ext_getElem?
 intro i
 by_cases h:i<n
 ·rw[s9 h];simp[h]
 ·rw[List.getElem?_eq_none (by rw[fz];omega),List.getElem?_eq_none (by simp;omega)]
theorem xG {f:Nat→Bool} {n t:Nat} {v:Bool} (h:t<n) (hv:v=f t):(gY f n t).set t v=gY f n (t+1):=by
 subst hv
 apply List.ext_getElem?
 intro i
 by_cases hi:i<n
 ·rw[s9 hi]
  by_cases e:i=t
  ·subst e;rw[List.getElem?_set_self (by rw[fz];exact hi)];simp
  ·rw[List.getElem?_set_ne (fun h=>e h.symm),s9 hi]
   congr 1
   by_cases h2:i<t
   ·rw[if_pos h2,if_pos (by omega)]
   ·rw[if_neg h2,if_neg (by omega)]
 ·rw[List.getElem?_eq_none (by rw[List.length_set,fz];omega),List.getElem?_eq_none (by rw[fz];omega)]
theorem vm (f:Nat→Bool) (n:Nat):gY f n n=(List.range n).map f:=by
 apply List.map_congr_left
 intro i hi
 rw[if_pos (List.mem_range.1 hi)]
def kN (d:bY) (k s:Nat):List Bool:=(List.range d.next.length).map (jv d k s)
def nZ (d:bY) (k m:Nat) (qs:List jY):Prop:=qs.map jY.xs=(List.range m).map (kN d k)
theorem km (d:bY) (k s:Nat):(kN d k s).length=d.next.length:=by simp[kN]
theorem nZ.len {d:bY} {k m:Nat} {qs:List jY} (h:nZ d k m qs):qs.length=m:=by
 have:=congrArg List.length h
 simpa using this
theorem nZ.get {d:bY} {k m:Nat} {qs:List jY} (h:nZ d k m qs) {a:Nat} (ha:a<m):
  ∃q,q∈qs∧(fh qs)[a]? =some (.slice q.b d.next.length q.c)∧(aU q.xs).length=d.next.length∧ ∀t,t<d.next.length→(aU q.xs)[t]? =some (.bool (jv d k a t)):=by
 have hl:=h.len
 have R7:a<qs.length:=by omega
 have e:qs[a].xs=kN d k a:=by
  have:=congrArg (fun l=>l[a]?) h
  simp only[List.getElem?_map,List.getElem?_eq_getElem R7,Option.map_some,List.getElem?_range ha]at this
  exact Option.some.inj this
 refine⟨qs[a],List.getElem_mem R7,?_,?_,?_⟩
 ·rw[List.getElem?_map,List.getElem?_eq_getElem R7,Option.map_some,jY.val,e,km]
 ·rw[List.length_map,e,km]
 ·intro t ht
  rw[List.getElem?_map,e,kN,List.getElem?_map,List.getElem?_range ht];rfl
theorem nZ.snoc {d:bY} {k m:Nat} {qs:List jY} (h:nZ d k m qs) {b:Option Addr} {c:Nat}:nZ d k (m+1) (qs++[⟨b,c,kN d k m⟩]):=by
 unfold nZ at*
 rw[List.map_append,h,List.range_succ,List.map_append];rfl
theorem As {l:List Value} {s n:Nat} {z v:Value} (hl:l.length=s) (hs:s<n):(l++List.replicate (n-s) z).set s v=l++v::List.replicate (n-(s+1)) z:=by
 rw[List.set_append_right _ _ (by omega),hl,Nat.sub_self,show n-s=(n-(s+1))+1 by omega,List.replicate_succ];rfl
theorem vl {l r:List Value} {s:Nat} {v:Value} (hl:l.length=s):(l++v::r)[s]? =some v:=by
 rw[List.getElem?_append_right (by omega),hl,Nat.sub_self];rfl
def hU (d:bY) (k s:Nat):List Nat×Nat:=q9 (fun s t=>!jv d k s t) s
theorem BM (d:bY) (k:Nat): ∀s,(hU d k s).1.length=s∧(hU d k s).2≤s
 |0=>⟨F,Nat.le_refl _⟩
 |s+1=>by
  obtain⟨h1,h2⟩:=BM d k s
  unfold hU at*
  rw[q9]
  split
  ·exact⟨by simp[h1],by simp only;omega⟩
  ·exact⟨by simp[h1],by simp only;omega⟩
theorem Jp {d:bY} {k s t:Nat} (Y7:t<s) (h: ∀t',t'<t→jv d k s t'=true) (ht:jv d k s t=false):hU d k (s+1)=((hU d k s).1++[(hU d k s).1.getD t 0],(hU d k s).2):=by
 have hf:first ((fun s t=>!jv d k s t) s) s=t:=BH (by omega) (fun _=>by simp[ht]) (fun t' h'=>by simp[h t' h'])
 unfold hU
 rw[q9,hf,if_pos Y7]
theorem Jq {d:bY} {k s:Nat} (h: ∀t',t'<s→jv d k s t'=true):hU d k (s+1)=((hU d k s).1++[(hU d k s).2],(hU d k s).2+1):=by
 have hf:first ((fun s t=>!jv d k s t) s) s=s:=BH (Nat.le_refl _) (fun h=>absurd h (by omega)) (fun t' h'=>by simp[h t' h'])
 unfold hU
 rw[q9,hf,if_neg (by omega)]
theorem Jr {d:bY} (hv:Val d) (k:Nat):(hU d (min k d.next.length) d.next.length).1=fj d k:=by
 show(q9 _ _).1=_
 rw[Jn hv]
 by_cases h:k≤d.next.length
 ·rw[Nat.min_eq_left h]
 ·rw[Nat.min_eq_right (by omega),BL hv k (by omega)]
theorem Av (f:Nat→Bool) (x:Nat):(List.range (x+1)).any f=((List.range x).any f||f x):=by
 rw[List.range_succ,List.any_append];simp
end Go.Lx

namespace Go.Lx
open Go.RowKit
theorem nU {n:Nat}: ∀(l ks:List Nat),ks.Nodup→(∀k∈ks,k<n)→(∀k∈l,k<n)→(l.foldl add ks).Nodup∧ ∀k∈l.foldl add ks,k<n
 | [],ks,h1,h2,_=>⟨h1,h2⟩
 |a::l,ks,h1,h2,h3=>nU l (add ks a) (lr h1) (fun k hk=>(sk.1 hk).elim (h2 k) fun e=>e▸h3 a (by simp)) fun k hk=>h3 k (by simp[hk])
theorem Me {d:bY} (hv:Val d) {o:Nat} (ho:o<d.next.length): ∀t∈li d o,t<d.next.length:=fun t ht=>by
 obtain⟨x,hx,rfl⟩:=List.mem_map.1 ht
 exact(hv.fB ho (List.mem_range.1 hx)).1
theorem nu {d:bY} (hv:Val d): ∀i,(ew d i).Nodup∧ ∀o∈ew d i,o<d.next.length
 |0=>by
  refine⟨by simp[ew],fun o ho=>?_⟩
  simp only[ew,List.mem_singleton]at ho
  have:=hv.s0;have:=hv.s1;omega
 |i+1=>by
  obtain⟨h1,h2⟩:=nu hv i
  rw[ew]
  split
  ·rename_i hi
   refine nU _ _ h1 h2 (Me hv (h2 _ ?_))
   rw[List.getD_eq_getElem?_getD,List.getElem?_eq_getElem hi]
   exact List.getElem_mem hi
  ·exact⟨h1,h2⟩
theorem pv {d:bY} (hv:Val d) (i:Nat):(ew d i).length≤d.next.length:=dR (nu hv i).1 (nu hv i).2
theorem tg {d:bY} {i o:Nat} (h:(ew d i)[i]? =some o):ew d (i+1)=(li d o).foldl add (ew d i):=by
 have hi:=(List.getElem?_eq_some_iff.1 h).1
 rw[ew,if_pos hi,List.getD_eq_getElem?_getD,h];rfl
def nV (d:bY) (i o x:Nat):List Nat:=((List.range x).map (dJ d o)).foldl add (ew d i)
theorem yn (d:bY) (i o x:Nat):nV d i o (x+1)=add (nV d i o x) (dJ d o x):=fF _ _ _
theorem JI {d:bY} (hv:Val d) {i o x:Nat} (ho:o<d.next.length) (hx:x≤2^d.vars.toNat):(nV d i o x).length≤d.next.length∧(ew d i).length≤(nV d i o x).length:=by
 obtain⟨h1,h2⟩:=nu hv i
 obtain⟨h3,h4⟩:=nU ((List.range x).map (dJ d o)) _ h1 h2 (fun t ht=>by
  obtain⟨y,hy,rfl⟩:=List.mem_map.1 ht
  exact(hv.fB ho (by have:=List.mem_range.1 hy;omega)).1)
 exact⟨dR h3 h4,(eY _ _).length_le⟩
theorem pB {d:bY} (hv:Val d):(order d).length≤d.next.length:=pv hv _
theorem JJ {d:bY} (hv:Val d): ∀o∈order d,o<d.next.length:=(nu hv _).2
theorem wF {d:bY} (hv:Val d): ∃N,N≤d.next.length∧(ew d N).length=N∧(∀j,j<N→j<(ew d j).length):=by
 have step: ∀k,(∃N,N≤k∧(ew d N).length=N∧ ∀j,j<N→j<(ew d j).length)∨((∀j,j<k→j<(ew d j).length)∧k≤(ew d k).length):=by
  intro k
  induction k with
  |zero=>exact .inr ⟨fun j hj=>absurd hj (by omega),Nat.zero_le _⟩
  |succ k ih=>
   rcases ih with⟨N,h1,h2⟩|⟨h1,h2⟩
   ·exact .inl ⟨N,by omega,h2⟩
   ·by_cases e:(ew d k).length=k
    ·exact .inl ⟨k,by omega,e,h1⟩
    ·refine .inr ⟨fun j hj=>?_,?_⟩
     ·by_cases ej:j=k
      ·subst ej;omega
      ·exact h1 j (by omega)
     ·have hi:k<(ew d k).length:=by omega
      rw[tg (List.getElem?_eq_getElem hi)]
      have:=(eY (li d (ew d k)[k]) (ew d k)).length_le
      omega
 rcases step d.next.length with h|⟨h1,h2⟩
 ·exact h
 ·exact⟨d.next.length,Nat.le_refl _,by have:=pv hv d.next.length;omega,h1⟩
theorem pt (d:bY): ∀(i m:Nat),i≤m→ew d i<+:ew d m:=by
 intro i m h
 induction h with
 |refl=>exact List.prefix_refl _
 | @step m _ ih=>
  refine ih.trans ?_
  rw[ew]
  split
  ·exact eY _ _
  ·exact List.prefix_refl _
theorem nT {d:bY} (hv:Val d): ∀o∈order d,∀t∈li d o,t∈order d:=by
 obtain⟨N,hN,hl,hj⟩:=wF hv
 have e:=pu hl hN
 intro o ho t ht
 rw[e]at ho⊢
 obtain⟨j,VE⟩:=List.getElem?_of_mem ho
 have hjl:=(List.getElem?_eq_some_iff.1 VE).1
 have Gn:=hj j (by omega)
 have hp:=pt d j N (by omega)
 have XH:(ew d j)[j]? =some o:=by
  obtain⟨r,hr⟩:=hp
  rw[←hr,List.getElem?_append_left Gn]at VE
  exact VE
 have Ay:=pt d (j+1) N (by omega)
 refine Ay.subset ?_
 rw[tg XH]
 exact(dj _ _).2 (.inr ht)
theorem NV {α:Type} [DecidableEq α] {x:α}: ∀ {ks:List α} {k:Nat},ks[k]? =some x→ix x ks≤k
 | [],k,h=>by simp at h
 |a::ks,k,h=>by
  simp only[ix]
  split
  ·omega
  ·rename_i rB
   cases k with
   |zero=>simp at h;exact absurd h.symm rB
   |succ k=>have:=NV (ks:=ks) (k:=k) (by simpa using h);omega
theorem BP (d:bY) (o:Nat):(li d o).length=2^d.vars.toNat:=by simp[li]
theorem sr {d:bY} {o x:Nat} (h:x<2^d.vars.toNat):(li d o)[x]? =some (dJ d o x):=by simp[li,h]
def fR (d:bY) (o:Nat):List Nat:=(li d o).map fun t=>ix t (order d)
theorem jd (d:bY) (o:Nat):(fR d o).length=2^d.vars.toNat:=by simp[fR,li]
theorem BV {d:bY} {o x:Nat} (h:x<2^d.vars.toNat):(fR d o).take (x+1)=(fR d o).take x++[ix (dJ d o x) (order d)]:=by
 rw[List.take_succ_eq_append_getElem (by rw[jd];exact h)]
 congr 2
 have:=sr (d:=d) (o:=o) h
 have h2:(fR d o)[x]? =some (ix (dJ d o x) (order d)):=by rw[fR,List.getElem?_map,this];rfl
 rw[List.getElem?_eq_getElem (by rw[jd];exact h)]at h2
 exact Option.some.inj h2
theorem wH (d:bY):(cO d).next=(order d).map fun o=>(fR d o).map fun x:Nat=>(x:Int):=by
 simp[cO,fR,Function.comp_def]
end Go.Lx

namespace Go.Lx
end Go.Lx

namespace Go.Lx
open Go.RowKit
theorem fX {P:Program} {base:World} {f:FuncId} {args:List Value} {O:List Item} {R:Value→List Item→Prop} (E:TypeId) (k:Nat) (h:bw P base f args O R):bw P base f args O (fun v O'=> ∃O2,O'=ak none 0 E k []::O2∧R v O2):=
 fun w M hI=>(h w M hI).mono fun _ _ ⟨v,O',h1,h2,h3⟩=>⟨v,_,h1,h2.dt E k,O',F,h3⟩
theorem rk {P:Program} {base:World} {f:FuncId} {args:List Value} {R:Value→List Item→Prop} (h:bw P base f args [] R):bw P base f args [] (fun v O'=>O'=[]∧ ∃O2,R v O2):=
 fun w M hI=>(h w M hI).mono fun _ _ ⟨v,O',h1,h2,h3⟩=>⟨v,[],h1,by simpa using h2.jf (a_ (List.sublist_append_right O' M)),F,O',h3⟩
theorem Rr {α:Type} {p:α→Prop} {a:α} {l:List α} (h1:p a) (h2: ∀q∈l,p q): ∀q∈a::l,p q:=fun q h=>by
 rcases List.mem_cons.1 h with rfl|h
 ·exact h1
 ·exact h2 q h
def fY (d:bY):bY:=cO (quo d (fj d d.next.length))
def pV (d:bY):bY:=if bW d=0 then fY d else⟨0,0,[],[]⟩
end Go.Lx

namespace Go.Lx
open Go.RowKit Go.Sort
def MM:List Int:=Lib.deBruijn64tab.map fun n:Nat=>(n:Int)
class cG (P:Program) (base:World):Prop where
 tab: ∀w,Below base.heap.size base w→Lib.TabIs P w "internal/strconv.uint64pow10" .u64 Lib.pow10Tab
 tz:P.globalNamed "math/bits.deBruijn64tab" =none∨ ∀w,Below base.heap.size base w→Lib.TabIs P w "math/bits.deBruijn64tab" .u8 MM
theorem cG.of {P:Program} {w:World} (h:Lib.TabIs P w "internal/strconv.uint64pow10" .u64 Lib.pow10Tab) (h2:P.globalNamed "math/bits.deBruijn64tab" =none∨Lib.TabIs P w "math/bits.deBruijn64tab" .u8 MM):cG P w:=⟨fun w' hb=>Lib.tabBelow_of_tabIs h w' hb,h2.imp id fun h w' hb=>Lib.tabBelow_of_tabIs h w' hb⟩
theorem cG.is {P:Program} {w:World} (h:cG P w):Lib.TabIs P w "internal/strconv.uint64pow10" .u64 Lib.pow10Tab:=h.tab w (Below.refl _ _)
theorem Inv.tab {P:Program} {base:World} {O:List Item} {w:World} (hI:Inv base O w) [t:cG P base]:cG P w:=.of (t.tab w hI.below) (t.tz.imp id fun h=>h w hI.below)
theorem Inv.grow {base:World} {O:List Item} {w:World} (h:Inv base O w) (k:Nat) (os:Array Obj):Inv base O (Go.Sort.grow (w.drewN k) os):=by
 refine Inv.new (N:=[]) h F F F ?_ ?_ (by simp) (by simp) (by simp)
 ·show w.heap.size≤(w.heap++os).size
  simp
 ·intro b hb
  show(w.heap++os)[b]? =w.heap[b]?
  rw[Array.getElem?_append_left hb]
theorem bw.drop {P:Program} {base:World} {f:FuncId} {args:List Value} {O:List Item} {R R':Value→List Item→Prop} (h:bw P base f args O R) (hr: ∀v O',R v O'→ ∃wM,Sub wM O'∧R' v wM):bw P base f args O R':=
 fun w M hI=>(h w M hI).mono fun _ _ ⟨v,O',h1,h2,h3⟩=>let⟨wM,hs,h4⟩:=hr v O' h3;⟨v,wM,h1,h2.jf hs.sw,h4⟩
theorem mL {P:Program} {W:World} {x:String×DataW Unit} {rest:List (String×DataW Unit)} {ps:List MemPlace} (h:DataW.LaidVars P W (x::rest) ps): ∃q,DataW.LaidVars P W rest q:=by
 obtain⟨g',t',cs,fa,p,q,Yk,Gm,R8,hd,hr,_⟩:=h
 exact⟨q,hr⟩
theorem qd {P:Program} {W:World} {name:String} {k:IntKind} {zs:List Int} {D:DataW Unit} {rest:List (String×DataW Unit)} {ps:List MemPlace} {g:Nat} {t e:TypeId} {n:Nat} (hD:D=Lib.tabData k zs)
  (hg:P.globalNamed name=some g) (Z0:(P.globals[g]?).map (·.type)=some t) (ht:P.underlying t=some (.array n e)) (he:P.underlying e=some (.int k)) (Vq:P.cellsOf e=1) (Z1:P.cellsOf t=n)
  (h:DataW.LaidVars P W ((name,D)::rest) ps):Lib.TabIs P W name k zs:=by
 subst hD
 obtain⟨g',t',cs,fa,p,q,Yk,Gm,R8,hd,_,_⟩:=h
 obtain rfl:=Option.some.inj (hg.symm.trans Yk)
 obtain rfl:=Option.some.inj (Z0.symm.trans Gm)
 unfold Lib.TabIs
 rw[R8,←Lib.cells_of_tab ht he Vq Z1 hd]
def Ws (n:Nat) (cs:Array Value):Prop:= ∀j (h:j<(cd (Lib.decDigits n)).length),cs[j]? =some (cd (Lib.decDigits n))[j]
theorem KA {P:Program} {f:FuncId} {base:World} {b T n:Nat} {Z:Array Value} (hZ: ∀j,j<24→Z[j]? =some (.int .u8 0)) (R9:1≤n) (hn:n<1000000000000)
  (hc: ∀(jP off cap u:Nat) (d:Array UInt8) (w:World),Holds (fun(b:UInt8)=>Value.int .u8 (b.toNat:Int)) w jP off d→u<10^d.size→u<18446744073709551616→d.size<4611686018427387904→
   Calls P f #[.slice (some ⟨jP,off,none⟩) d.size cap,.int .u64 u] w fun e w'=>e=.returned (.tuple #[])∧ ∃(n v':Nat) (dk:Array UInt8),w'=(putRow (fun(b:UInt8)=>Value.int .u8 (b.toNat:Int)) w jP off dk).drewN n∧Lib.FmtInv d.size u 0 v' dk):
  bw P base f [.slice (some ⟨b,0,none⟩) (Lib.nDigits n) 24,.int .u64 (n:Int)] [da b (.cells Z T (0,0))] (fun v O'=>v=.tuple #[]∧ ∃cs,O'=[da b (.cells cs T (0,0))]∧Ws n cs):=by
 intro w M hI
 have hb:w.heap[b]? =some (.cells Z T (0,0)):=hI.holds _ (List.mem_cons_self ..)
 have jT:Lib.nDigits n≤20:=by have:=Lib.numDigits_eq n R9 (by omega);split at this<;>omega
 have hH:Holds (fun(b:UInt8)=>Value.int .u8 (b.toNat:Int)) w b 0 (Array.replicate (Lib.nDigits n) 0):=fun j hj=>by
  have uV:j<Lib.nDigits n:=by simpa using hj
  refine⟨?_,?_⟩
  ·rw[getElem!_pos _ j hj]
   simp[World.cell?,hb,hZ j (by omega)]
  ·simp[World.frozen?,hb]
 have:=hc b 0 24 n (Array.replicate (Lib.nDigits n) 0) w hH (by rw[Array.size_replicate];exact Lib.lt_pow_nDigits n) (by omega) (by rw[Array.size_replicate];omega)
 rw[Array.size_replicate]at this
 refine this.mono ?_
 rintro e w' ⟨rfl,k,v',dk,rfl,hF⟩
 obtain⟨D,hD⟩: ∃D,D=putCells (fun(b:UInt8)=>Value.int .u8 (b.toNat:Int)) 0 dk Z:=⟨_,F⟩
 have An:(putRow (fun(b:UInt8)=>Value.int .u8 (b.toNat:Int)) w b 0 dk).heap[b]? =some (.cells D T (0,0)):=by
  show(w.heap.modify b _)[b]? =_
  rw[Array.getElem?_modify,if_pos F,hb,hD];rfl
 have ho: ∀x,x≠b→(putRow (fun(b:UInt8)=>Value.int .u8 (b.toNat:Int)) w b 0 dk).heap[x]? =w.heap[x]? :=fun x hx=>by
  show(w.heap.modify b _)[x]? =_
  rw[Array.getElem?_modify,if_neg (fun e=>hx e.symm)]
 have h1: ∀j,j<dk.size→(putRow (fun(b:UInt8)=>Value.int .u8 (b.toNat:Int)) w b 0 dk).cell? ⟨b,0+j,none⟩=some (.int .u8 (dk[j]!.toNat:Int)):=fun j hj=>cell?_putRow _ w b 0 _ dk hH (by rw[hF.size,Array.size_replicate]) j hj
 have hs:(putRow (fun(b:UInt8)=>Value.int .u8 (b.toNat:Int)) w b 0 dk).heap.size=w.heap.size:=by simp
 have e1:(putRow (fun(b:UInt8)=>Value.int .u8 (b.toNat:Int)) w b 0 dk).os=w.os:=rfl
 have e2:(putRow (fun(b:UInt8)=>Value.int .u8 (b.toNat:Int)) w b 0 dk).tape=w.tape:=rfl
 have e3:(putRow (fun(b:UInt8)=>Value.int .u8 (b.toNat:Int)) w b 0 dk).output=w.output:=rfl
 generalize putRow (fun(b:UInt8)=>Value.int .u8 (b.toNat:Int)) w b 0 dk=w1 at*
 have R1:Inv base ([da b (.cells D T (0,0))]++M) w1:=by
  refine hI.qq (i:=0) (it:=da b (.cells Z T (0,0))) (Oa:=da b (.cells D T (0,0))) F e1 e2 e3 (by omega) ?_ An (fun x hx=>.inl hx) (by simp[da])
  intro x hx rB
  exact ho x (fun e=>rB (by simp[da,e]))
 refine⟨_,[da b (.cells D T (0,0))],F,R1.same F F F F,F,D,F,?_⟩
 ·intro j hj
  have uV:j<(Lib.decDigits n).length:=by simpa[cd]using hj
  have qB:j<dk.size:=by rw[hF.size];rwa[Lib.decDigits_length]at uV
  have h3:D[j]? =some (.int .u8 (dk[j]!.toNat:Int)):=by have:=h1 j qB;simpa[World.cell?,An]using this
  rw[h3,←Lib.row_is_numeral hF j uV]
  simp[cd]
section
variable {P:Program} {r:Option Nat} {base:World} {n:Nat} {ρ:Env} {O:List Item} {dst:Option Nat} {d:Nat} {t:TypeId} {p:String} {af:Array Edge} {g:Option (Nat×Bool)} {K:Env→List Item→Prop}
theorem Ao {T E:TypeId} {x y:Operand} {b m h fx:Nat} {z:Value} (hu:P.underlying T=some (.array m E)) (hi:eS P E z 1 fx) (hx:ev ρ x=.pointer (some ⟨b,0,none⟩)) (hy:ev ρ y=.int .i64 (h:Int)) (hh:h≤m) (h0:1≤h):
  QT P base ⟨dst,.slice T x none (some y) none,t,p,af,g⟩ ρ O (.slice (some ⟨b,0,none⟩) h m):=fun w hI=>by
 have e1:(h:Int)≤(m:Int):=by omega
 have e2:(0:Int)≤(h:Int):=by omega
 simp[execOp,Instr.sliceAt,Instr.sureAddr,hx,hy,aV hu,bp hi,Instr.sliceBounds,Instr.sliceBound,asIntOf,e1,e2,pE,hh]
theorem Fw {T U E A:TypeId} {b:Option Addr} {m c l ca k fx:Nat} {x y:Operand} {z:Value} {cs new:List Value} {arr:Array Value} (i j:Nat)
  (hu:P.underlying T=some (.slice E)) (GX:P.underlying U=some (.slice E)) (hi:eS P E z 1 fx) (hz:z.cells.size=1)
  (hx:ev ρ x=.slice b m c) (hy:ev ρ y=.slice (some ⟨k,0,none⟩) l ca) (hO:O[j]? =some (ak b c E 1 cs)) (hl:cs.length=m) (hs:new.length=l)
  (hA:O[i]? =some (da k (.cells arr A (0,0)))) (Z2: ∀q (h:q<new.length),arr[q]? =some new[q]) (pW:(new.all dD)=true)
  (qo:(m+l)*fx≤70368744177664) (J2:fx≤1000000) (z_:0<fx)
  (h: ∀b' c',K (np ρ d (.slice b' (m+l) c')) (O.set j (ak b' c' E 1 (cs++new)))) (hn:Nat.blt d n=true:=by rfl):
  LT P r base n ⟨some d,.call ⟨.builtin .append,#[x,y],#[T,U]⟩,t,p,af,g⟩ ρ O K:=
 gw hn fun w M hI=>by
  have Cw:Src P base (O++M) 1 l (.slice (some ⟨k,0,none⟩) l ca) new:=⟨by omega,fun w=>by simp[Builtin.lenOf],fun w hI=>gH (fun q hq=>⟨⟨k,0,none⟩,F,F,by
   have hb:w.heap[k]? =some (.cells arr A (0,0)):=hI.holds _ (List.mem_of_getElem? (lB hA))
   simp[World.cell?,hb,Z2 q hq]⟩) (by omega) (fun e=>by cases e)⟩
  obtain⟨b',c',w',hr,mh⟩:=nA (ty:=t) hu GX (.inl ⟨_,F⟩) hi hz (lB hO) (by simpa using hl) (by decide) Cw pW qo J2 z_ hI
  rw[nz hO]at mh
  refine⟨_,w',_,?_,mh,h b' c'⟩
  simp[execOp,resolve,hx,hy,invoke,builtin,hr]
end
end Go.Lx

namespace Go.Lx
open Go.RowKit
section
variable {P:Program} {r:Option Nat} {base:World} {n:Nat} {ρ:Env} {O:List Item} {K':Env→List Item→Prop} {d:Nat} {t:TypeId} {p:String} {af:Array Edge} {g:Option (Nat×Bool)}
end
end Go.Lx

namespace Go.Lx
open Go.RowKit
section
variable {P:Program} {base:World} {ρ:Env} {O:List Item} {dst:Option Nat} {t:TypeId} {p:String} {af:Array Edge} {g:Option (Nat×Bool)}
theorem kj {x:Nat} (h:x<2^64):IntKind.u64.wrap (x:Int)=(x:Int):=by
 simp only[IntKind.wrap,IntKind.signed,IntKind.bits]
 simp
 omega
inductive UK:IntKind→Prop
 |u8:UK .u8
 |u64:UK .u64
theorem UK.wrap {k:IntKind} (hk:UK k) {x:Nat} (h:x<2^k.bits):k.wrap (x:Int)=(x:Int):=by
 cases hk
 ·exact mm (by simpa[IntKind.bits]using h)
 ·exact kj (by simpa[IntKind.bits]using h)
theorem Ou {x y:Operand} {T U:TypeId} {k:IntKind} {a b:Nat} (hk:UK k) (hx:ev ρ x=.int k (a:Int)) (hy:ev ρ y=.int k (b:Int)) (ha:a<2^k.bits) (hb:b<2^k.bits):QT P base ⟨dst,.binOp .or T x y U,t,p,af,g⟩ ρ O (.int k ((a|||b:Nat):Int)):=fun w _=>by
 have:=hk.wrap (Nat.or_lt_two_pow ha hb)
 simp[execOp,hx,hy,eqGuard,binOp,Op.intBits,Nat.mod_eq_of_lt ha,Nat.mod_eq_of_lt hb,this]
theorem DL {x y:Operand} {T U:TypeId} {k:IntKind} {a b:Nat} (hk:UK k) (hx:ev ρ x=.int k (a:Int)) (hy:ev ρ y=.int k (b:Int)) (ha:a<2^k.bits) (hb:b<2^k.bits):QT P base ⟨dst,.binOp .and T x y U,t,p,af,g⟩ ρ O (.int k ((a&&&b:Nat):Int)):=fun w _=>by
 have:=hk.wrap (Nat.lt_of_le_of_lt (Nat.and_le_left (n:=a) (m:=b)) ha)
 simp[execOp,hx,hy,eqGuard,binOp,Op.intBits,Nat.mod_eq_of_lt ha,Nat.mod_eq_of_lt hb,this]
theorem Ov {x y:Operand} {T U:TypeId} {k k':IntKind} {a b:Nat} (hk:UK k) (hx:ev ρ x=.int k (a:Int)) (hy:ev ρ y=.int k' (b:Int)) (hb:b≤k.bits) (h:a*2^b<2^k.bits):QT P base ⟨dst,.binOp .shl T x y U,t,p,af,g⟩ ρ O (.int k ((a*2^b:Nat):Int)):=fun w _=>by
 have h0: ¬(b:Int)<0:=by omega
 have h1:min (b:Int).toNat k.bits=b:=by rw[Int.toNat_natCast];exact Nat.min_eq_left hb
 have h2:k.wrap ((a:Int)*2^b)=((a*2^b:Nat):Int):=by
  have:=hk.wrap h
  rw[←this];congr 1
 simp only[execOp,hx,hy,eqGuard,binOp,Op.shift,h0,if_false,h1,h2]
 simp
theorem Hc {x y:Operand} {T U:TypeId} {k:IntKind} {a b:Nat} (hk:UK k) (hx:ev ρ x=.int k (a:Int)) (hy:ev ρ y=.int k (b:Int)) (ha:a<2^k.bits) (hb:b≤a):QT P base ⟨dst,.binOp .sub T x y U,t,p,af,g⟩ ρ O (.int k ((a-b:Nat):Int)):=by
 have h:=MI (P:=P) (base:=base) (O:=O) (dst:=dst) (t:=t) (p:=p) (af:=af) (g:=g) (T:=T) (U:=U) hx hy
 rw[←Int.natCast_sub hb,hk.wrap (by omega)]at h
 exact h
theorem cj {x y:Operand} {T U:TypeId} {a b:Nat} (hx:ev ρ x=.int .i64 (a:Int)) (hy:ev ρ y=.int .i64 (b:Int)) (h:a+b≤9223372036854775807):QT P base ⟨dst,.binOp .add T x y U,t,p,af,g⟩ ρ O (.int .i64 ((a+b:Nat):Int)):=by
 have:=cM (P:=P) (base:=base) (O:=O) (dst:=dst) (t:=t) (p:=p) (af:=af) (g:=g) (T:=T) (U:=U) hx hy (by omega)
 rwa[←Int.natCast_add]at this
theorem gI {x y:Operand} {T U:TypeId} {a b:Nat} (hx:ev ρ x=.int .i64 (a:Int)) (hy:ev ρ y=.int .i64 (b:Int)) (h:b≤a) (ha:a≤9223372036854775807):QT P base ⟨dst,.binOp .sub T x y U,t,p,af,g⟩ ρ O (.int .i64 ((a-b:Nat):Int)):=by
 have:=eQ (P:=P) (base:=base) (O:=O) (dst:=dst) (t:=t) (p:=p) (af:=af) (g:=g) (T:=T) (U:=U) hx hy (by omega)
 rwa[←Int.natCast_sub h]at this
def Al (b:Option Addr) (c lo k:Nat):Option Addr:=if c=lo then b else b.map (·.add (lo*k))
theorem Fu (b:Option Addr) (c k:Nat):Al b c 0 k=b:=by
 unfold Al
 split
 ·rfl
 ·rw[Nat.zero_mul];cases b with
  |none=>rfl
  |some a=>simp[Addr.add]
theorem DM {x:Operand} {T E:TypeId} {b:Option Addr} {n c k fx lo hi:Nat} {z:Value} {yl yh:Option Operand} {kl kh:IntKind} (hu:P.underlying T=some (.slice E)) (pC:eS P E z k fx) (hx:ev ρ x=.slice b n c)
  (hl: ∀y,yl=some y→ev ρ y=.int kl (lo:Int)) (DG:yl=none→lo=0) (hh: ∀y,yh=some y→ev ρ y=.int kh (hi:Int)) (Yi:yh=none→hi=n) (h1:lo≤hi) (h2:hi≤c):
  QT P base ⟨dst,.slice T x yl yh none,t,p,af,g⟩ ρ O (.slice (Al b c lo k) (hi-lo) (c-lo)):=fun w _=>by
 have e1:(lo:Int)≤(hi:Int):=by omega
 have e2:(hi:Int)≤(c:Int):=by omega
 have e0:(0:Int)≤(lo:Int):=by omega
 have e3:(0:Int)≤(hi:Int):=by omega
 unfold Al
 have ed:c-lo=0↔c=lo:=by omega
 cases yl with
 |none=>
  obtain rfl:=DG F
  cases yh with
  |none=>
   obtain rfl:=Yi F
   by_cases uh:c=0
   ·simp[execOp,Instr.sliceAt,Instr.slice,hx,aV hu,bp pC,Instr.sliceBounds,uh]
   ·simp[execOp,Instr.sliceAt,Instr.slice,hx,aV hu,bp pC,Instr.sliceBounds,uh]
  |some y=>
   have:=hh y F
   by_cases uh:c=0
   ·simp[execOp,Instr.sliceAt,Instr.slice,hx,this,aV hu,bp pC,Instr.sliceBounds,Instr.sliceBound,asIntOf,e2,e3,uh,h2]
    omega
   ·simp[execOp,Instr.sliceAt,Instr.slice,hx,this,aV hu,bp pC,Instr.sliceBounds,Instr.sliceBound,asIntOf,e2,e3,uh,h2]
 |some y'=>
  have Vp:=hl y' F
  cases yh with
  |none=>
   obtain rfl:=Yi F
   by_cases uh:c=lo
   ·simp[execOp,Instr.sliceAt,Instr.slice,hx,Vp,aV hu,bp pC,Instr.sliceBounds,Instr.sliceBound,asIntOf,e1,e0,uh,h1]
   ·simp[execOp,Instr.sliceAt,Instr.slice,hx,Vp,aV hu,bp pC,Instr.sliceBounds,Instr.sliceBound,asIntOf,e1,e0,uh,h1]
  |some y=>
   have:=hh y F
   by_cases uh:c=lo
   ·simp[execOp,Instr.sliceAt,Instr.slice,hx,Vp,this,aV hu,bp pC,Instr.sliceBounds,Instr.sliceBound,asIntOf,e1,e0,e2,e3,uh,h1,h2]
    intro;omega
   ·simp[execOp,Instr.sliceAt,Instr.slice,hx,Vp,this,aV hu,bp pC,Instr.sliceBounds,Instr.sliceBound,asIntOf,e1,e0,e2,e3,uh,h1,h2]
theorem Fv {x y:Operand} {T E:TypeId} {b:Option Addr} {n c k fx hi:Nat} {z:Value} {kh:IntKind} (hu:P.underlying T=some (.slice E)) (pC:eS P E z k fx) (hx:ev ρ x=.slice b n c) (hh:ev ρ y=.int kh (hi:Int)) (h2:hi≤c):
  QT P base ⟨dst,.slice T x none (some y) none,t,p,af,g⟩ ρ O (.slice b hi c):=by
 have:=DM (P:=P) (base:=base) (O:=O) (dst:=dst) (t:=t) (p:=p) (af:=af) (g:=g) (lo:=0) (kl:=.i64) hu pC hx (yl:=none) (yh:=some y) (fun _ h=>by cases h) (fun _=>rfl) (fun _ h=>by cases h;exact hh) (fun h=>by cases h) (Nat.zero_le _) h2
 rwa[Fu,Nat.sub_zero,Nat.sub_zero]at this
theorem Am {x y:Operand} {T E:TypeId} {b:Option Addr} {n c k fx lo:Nat} {z:Value} {kl:IntKind} (hu:P.underlying T=some (.slice E)) (pC:eS P E z k fx) (hx:ev ρ x=.slice b n c) (hh:ev ρ y=.int kl (lo:Int)) (h1:lo≤n) (h2:n≤c):
  QT P base ⟨dst,.slice T x (some y) none none,t,p,af,g⟩ ρ O (.slice (Al b c lo k) (n-lo) (c-lo)):=
 DM (kh:=.i64) hu pC hx (fun _ h=>by cases h;exact hh) (fun h=>by cases h) (fun _ h=>by cases h) (fun _=>rfl) h1 h2
end
section
variable {P:Program} {r:Option Nat} {base:World} {n:Nat} {ρ:Env} {O:List Item} {K:Env→List Item→Prop} {d:Nat} {t:TypeId} {p:String} {af:Array Edge} {g:Option (Nat×Bool)}
end
theorem cE {P:Program} {r:Option Nat} {base:World} {n:Nat} {Q:ju} {ρ:Env} {O:List Item} {c:Code} {α:Type} (I:α→Env→List Item→Prop) (μ:α→Nat) (s:α) (h0:I s ρ O)
  (h: ∀s ρ O,I s ρ O→T P r base n c (GU (fun fP O'=> ∃s',μ s'<μ s∧ ∃O2,Sub O2 O'∧I s' fP O2) Q) ρ O):T P r base n (.loop c) Q ρ O:=
 ck (fun s ρ O=> ∃O2,Sub O2 O∧I s ρ O2) μ s ⟨O,a_ (List.Sublist.refl _),h0⟩ (fun s ρ O ⟨O2,hs,hi⟩=>cu hs (h s ρ O2 hi))
theorem yz {P:Program} {T E:TypeId} {d:TypeDesc} {b:Nat} {v:Value} {cs:List Value} {fr:Nat×Nat} {w:World} (hu:P.underlying T=some d) (ha:qv d=false) (hw:w.heap[b]? =some (.cells (v::cs).toArray E fr)):
  (loadVar T ⟨b,0,none⟩).run P w=.ok v w:=by
 have hc:w.cell? ⟨b,0,none⟩=some v:=by unfold World.cell?;simp[hw]
 simp[loadVar,lz hu,ha,hc]
section
variable {P:Program} {base:World} {ρ:Env} {O:List Item} {dst:Option Nat} {t:TypeId} {p:String} {af:Array Edge} {g:Option (Nat×Bool)}
end
end Go.Lx

namespace Go.Lx
open Go.RowKit
section
variable {P:Program} {r:Option Nat} {base:World} {n:Nat} {ρ:Env} {O:List Item} {K:Env→List Item→Prop} {d:Nat} {t:TypeId} {p:String} {af:Array Edge} {g:Option (Nat×Bool)}
end
end Go.Lx

namespace Go.Lx
open Go.RowKit
theorem DN {P:Program} {base:World} {ρ:Env} {O:List Item} {dst:Option Nat} {t:TypeId} {p:String} {af:Array Edge} {g:Option (Nat×Bool)} {x:Operand} {S:TypeId} {fs:Array Field} {i:Nat} {f:Field} {cs:List Value} {d:TypeDesc} {v:Value} (hu:P.underlying S=some (.struct fs)) (hf:fs[i]? =some f) (hd:P.underlying f.type=some d) (ha:qv d=false) (hx:ev ρ x=.agg cs.toArray) (hv:cs[f.offset]? =some v):
  QT P base ⟨dst,.field S x i,t,p,af,g⟩ ρ O v:=fun w _=>by
 simp[execOp,hx,Instr.field,aV hu,hf,part,lz hd,ha,asAgg,hv]
section
variable {X:PX} {P:Program} {r:Option Nat} {base:World} {n:Nat} {ops:Array Oper} {S S2:List Item} {tail cx:List Nat} {K:Env→List Item→Prop} {ρ:Env} {O:List Item}
theorem Cx {fa:Nat} {listed:Array Bool} (i:Nat) {o:Oper} {j0 tj:Nat} {want:Bool} (hi:ops[i]? =some o) (hg:o.guard=some (j0,want)) (Ow:(ops[j0]?).bind (·.dst)=some tj) (hw:ρ tj=.bool want) (hr:Region.ready .any ops listed=[i])
  (h:LT P r base n o ρ O (fun fP O'=>(i∈tail∨Sub S O')∧(i∈cx∨Sub S2 O')∧RO X P r base n ops S tail S2 cx fa (listed.setIfInBounds i true) K fP O')):RO X P r base n ops S tail S2 cx (fa+1) listed K ρ O:=by
 intro Q a w M D hq hp ha hI mj hS
 refine⟨fun h0=>(by rw[hr]at h0;cases h0),fun j hj=>?_⟩
 rw[hr]at hj
 obtain rfl:j=i:=by simpa using hj
 have uV:j∈Region.ready .any ops listed:=by rw[hr];simp
 have eU:j<listed.size:=by
  have:=(mem_ready.1 uV).1
  rcases Nat.lt_or_ge j listed.size with h'|h'
  ·exact h'
  ·simp[Array.getElem?_eq_none h']at this
 have hy:=ir (ops:=ops) ha Ow
 rw[hw]at hy
 have ou:Region.wanted o (yielded ops a.tmps)=true:=by unfold Region.wanted;rw[hg];simp[hy,J3]
 unfold wpOpIn
 simp only[hi]
 rw[if_pos ou]
 refine h a w _ _ ha hI _ _ fun a' fP O' w' h1 h2 h3=>?_
 have p_: ∀(tl:List Nat) (Z:List Item),(j∈tl∨Sub Z O')→(tl.any fun b=>(listed.setIfInBounds j true).getD b false)=true∨Inv base Z w':=fun tl Z h3=>by
  rcases h3 with h4|h4
  ·refine .inl (List.any_eq_true.2 ⟨j,h4,?_⟩)
   simp[eU]
  ·exact .inr (h2.left.jf h4)
 have ox:gG base S tail S2 cx (listed.setIfInBounds j true) w':=⟨h2.lY,p_ _ _ h3.1,p_ _ _ h3.2.1⟩
 exact⟨ox,h3.2.2 Q a' w' M D hq hp h1 h2 (gO mj uV) ox⟩
theorem qA {l:List (Nat×Nat)} {i:Nat} {o:Oper} {j0 tj:Nat} {want:Bool} (hi:ops[i]? =some o) (hg:o.guard=some (j0,want)) (Ow:(ops[j0]?).bind (·.dst)=some tj) (hw:ρ tj=.bool want)
  (h:LT P r base n o ρ O (fun fP O'=>DO X P r base n ops S tail S2 cx l K fP O')):DO X P r base n ops S tail S2 cx ((i,2)::l) K ρ O:=fun hs jT hl listed hb=>by
 simp only[iv,Bool.and_eq_true,beq_iff_eq]at hb
 refine Cx i hi hg Ow hw hb.1 ?_
 intro a w M ds ha hI next Qx dU
 exact h a w M ds ha hI next Qx fun a' fP O' w' h1 h2 h3=>dU a' fP O' w' h1 h2 ⟨.inl ((hl (i,2) (by simp)).1.1 F),.inl ((hl (i,2) (by simp)).2.1 (.inl F)),h3 hs jT (fun q hq=>hl q (List.mem_cons_of_mem _ hq)) _ hb.2⟩
end
end Go.Lx

namespace Go.Lx
open Go.RowKit
section
variable {X:PX} {P:Program} {r:Option Nat} {base:World} {n:Nat} {ops:Array Oper} {S S2:List Item} {tail cx:List Nat} {K:Env→List Item→Prop} {ρ:Env} {O:List Item}
theorem yA {fa:Nat} {listed:Array Bool} (i:Nat) {o:Oper} {d j0 tj:Nat} {want:Bool} (hi:ops[i]? =some o) (hg:o.guard=some (j0,want)) (hd:o.dst=some d) (Ow:(ops[j0]?).bind (·.dst)=some tj) (hw:(J3 (ρ tj)==some want)=false) (hn:Nat.blt d n=true) (hr:Region.ready .any ops listed=[i])
  (h:RO X P r base n ops S tail S2 cx fa (listed.setIfInBounds i true) K (np ρ d undef) O):RO X P r base n ops S tail S2 cx (fa+1) listed K ρ O:=by
 intro Q a w M D hq hp ha hI mj hS
 refine⟨fun h0=>(by rw[hr]at h0;cases h0),fun j hj=>?_⟩
 rw[hr]at hj
 obtain rfl:j=i:=by simpa using hj
 have uV:j∈Region.ready .any ops listed:=by rw[hr];simp
 have hy:=ir (ops:=ops) ha Ow
 have ou:Region.wanted o (yielded ops a.tmps)=false:=by unfold Region.wanted;rw[hg];simp only[hy];exact hw
 unfold wpOpIn
 simp only[hi]
 rw[if_neg (by rw[ou];decide)]
 have ox:gG base S tail S2 cx (listed.setIfInBounds j true) w:=⟨hS.lY,hS.one.imp yx id,hS.two.imp yx id⟩
 refine⟨fun _ _=>trivial,ox,?_⟩
 rw[hd]
 exact h Q _ w M D hq hp (ha.put hn undef) hI (gO mj uV) ox
theorem yB {l:List (Nat×Nat)} {i mo:Nat} {o:Oper} {d j0 tj:Nat} {want:Bool} (ZX:mo=1∨mo=2) (hi:ops[i]? =some o) (hg:o.guard=some (j0,want)) (hd:o.dst=some d) (Ow:(ops[j0]?).bind (·.dst)=some tj) (hw:(J3 (ρ tj)==some want)=false)
  (h:DO X P r base n ops S tail S2 cx l K (np ρ d undef) O) (hn:Nat.blt d n=true:=by rfl):DO X P r base n ops S tail S2 cx ((i,mo)::l) K ρ O:=fun hs jT hl listed hb=>by
 have Cp:(Region.ready .any ops listed== [i])=true∧iv ops tail cx l (listed.setIfInBounds i true)=true:=by
  rcases ZX with rfl|rfl<;>simpa only[iv,Bool.and_eq_true]using hb
 exact yA i hi hg hd Ow hw hn (by simpa using Cp.1) (h hs jT (fun q hq=>hl q (List.mem_cons_of_mem _ hq)) _ Cp.2)
end
theorem Sub.k {A B:List Item} {a:Item} (h:Sub A B):Sub (a::A) (a::B):=by
 obtain⟨l,h1,h2⟩:=h;exact⟨a::l,h1.cons a,.cons_cons a h2⟩
theorem Sub.d {A B:List Item} {a:Item} (h:Sub A B):Sub A (a::B):=by
 obtain⟨l,h1,h2⟩:=h;exact⟨l,h1,.cons a h2⟩
theorem Sub.z {B:List Item}:Sub [] B:=a_ (List.nil_sublist _)
theorem Sub.rf {B:List Item}:Sub B B:=a_ (List.Sublist.refl _)
theorem dm (A B S:List Item):Sub ((A++B)++S) ((A++S)++B):=by
 refine⟨(A++S)++B,?_,List.Sublist.refl _⟩
 rw[List.append_assoc,List.append_assoc]
 exact List.Perm.append_left A List.perm_append_comm
theorem cQ (A B S R:List Item):Sub ((A++B)++(S++R)) ((A++S)++(B++R)):=by
 refine⟨(A++S)++(B++R),?_,List.Sublist.refl _⟩
 have h:(B++(S++R)).Perm (S++(B++R)):=by
  rw[←List.append_assoc,←List.append_assoc]
  exact List.perm_append_comm.append_right R
 rw[List.append_assoc,List.append_assoc]
 exact List.Perm.append_left A h
theorem Hd {l B:List Item} (h:l.Sublist B): ∃D,(l++D).Perm B:=by
 induction h with
 |slnil=>exact⟨[],List.Perm.refl _⟩
 |cons a _ ih=>obtain⟨D,hD⟩:=ih;exact⟨a::D,List.perm_middle.trans (hD.cons a)⟩
 |cons_cons a _ ih=>obtain⟨D,hD⟩:=ih;exact⟨D,hD.cons a⟩
theorem Sub.perm {A B:List Item} (h:Sub A B): ∃D,(A++D).Perm B:=by
 obtain⟨l,p,s⟩:=h
 obtain⟨D,hD⟩:=Hd s
 exact⟨D,(p.append_right D).trans hD⟩
theorem Sub.tr {A B C:List Item} (h1:Sub A B) (h2:Sub B C):Sub A C:=by
 obtain⟨D,p⟩:=h1.perm
 obtain⟨E,q⟩:=h2.perm
 exact iS (D:=D++E) (by rw[←List.append_assoc];exact(p.append_right E).trans q)
end Go.Lx

namespace Go.Lx
open Go.RowKit
theorem Sub.dL {xs:List Item} {x:Item} (P Q:List Item) (h:Sub xs (P++Q)):Sub (x::xs) (P++x::Q):=by
 obtain⟨D,p⟩:=h.perm
 refine iS (D:=D) ?_
 exact(p.cons x).trans List.perm_middle.symm
example (a b c d e:Item) (R:List Item):Sub ([c,a,e]++R) ([a,b,c,d,e]++R):=by exact Sub.dL [a,b] _ (.k (.d (.d (.k .rf))))
end Go.Lx

namespace Go.Lx
open Go.RowKit
theorem gd {A B:List Item} (N:List Item) (h:Sub A B):Sub A (N++B):=by
 obtain⟨l,hp,hs⟩:=h
 exact⟨l,hp,hs.trans (List.sublist_append_right _ _)⟩
end Go.Lx

namespace Go.Lx
open Go.RowKit
theorem jD {P:Program} {base:World} {ρ:Env} {O:List Item} {fn:Func} {R:Value→List Item→Prop} {a i c j:Nat} {T U E E':TypeId} {d d':TypeDesc} {z u:Value} {s fx b b':Nat} {cs zY:List Value} {fr ZY:Nat×Nat} (hr:fn.results= #[.cell a T,.cell c U]) (hu:P.underlying T=some d) (ha:qv d=true) (hi:eS P T z s fx) (GH:P.underlying U=some d') (R7:qv d'=false)
  (hp:ρ a=.pointer (some ⟨b,0,none⟩)) (Q9:ρ c=.pointer (some ⟨b',0,none⟩)) (hO:O[i]? =some (da b (.cells cs.toArray E fr))) (ZZ:O[j]? =some (da b' (.cells (u::zY).toArray E' ZY))) (hl:cs.length=s)
  (h:R (.tuple #[.agg cs.toArray,u]) O):qb P base fn ρ O R:=
 ⟨⟨_,O,a_ (List.Sublist.refl _),h,fun w tmps hI ht=>by
  have h1:=oA (P:=P) hu ha hi hl (hI.tt hO)
  have h2:=yz (P:=P) GH R7 (hI.tt ZZ)
  have Yj:=ht a
  have Q_:=ht c
  simp only[Array.getD_eq_getD_getElem?]at Yj Q_
  simp[results,hr,Yj,Q_,hp,Q9,asAddr,h1,h2]⟩⟩
theorem aP {P:Program} {base:World} {ρ:Env} {O:List Item} {dst:Option Nat} {t:TypeId} {p:String} {af:Array Edge} {g:Option (Nat×Bool)} {x:Operand} {a:Addr} (h:ev ρ x=.pointer (some a)):QT P base ⟨dst,.nilCheck x,t,p,af,g⟩ ρ O (.pointer (some a)):=fun w _=>by simp[execOp,h]
end Go.Lx

namespace Go.Lx
open Go.RowKit
section
variable {P:Program} {base:World} {ρ:Env} {O:List Item} {dst:Option Nat} {t:TypeId} {p:String} {af:Array Edge} {g:Option (Nat×Bool)}
theorem rC {T E:TypeId} {n:Nat} {parts:List (Nat×Operand)} {z ze:Value} {s fx sz bz:Nat} {cs:List Value} (hu:P.underlying T=some (.array n E)) (he:eS P E ze s fx) (hi:eS P T z sz bz) (hf:Instr.fill (fun i=>some (i*s,s)) z.cells (parts.map fun q=>(q.1,ev ρ q.2))=some cs.toArray):
  QT P base ⟨dst,.build T parts.toArray,t,p,af,g⟩ ρ O (.agg cs.toArray):=fun w _=>by
 simp only[execOp,Instr.build,Sem.run_bind,fC hi,Result.andThen_ok,aV hu,bp he]
 simp[hf]
end
def MN (P:Program) (r:Option Nat) (base:World) (n:Nat) (c:Code) (Q:ju):Nat→Env→List Item→Prop
 |0,_,_=>False
 |m+1,ρ,O=>T P r base n c (GU (MN P r base n c Q m) Q) ρ O
theorem nC {P:Program} {r:Option Nat} {base:World} {n:Nat} {c:Code} {Q:ju} {ρ:Env} {O:List Item} (m:Nat) (h:MN P r base n c Q m ρ O):T P r base n (.loop c) Q ρ O:=
 ck (MN P r base n c Q) (fun m=>m) m h fun s ρ O h=>by
  cases s with
  |zero=>exact h.elim
  |succ s=>exact T.mono (show T P r base n c (GU (MN P r base n c Q s) Q) ρ O from h) (fun e ρ O h=>by cases e<;>first|exact⟨s,Nat.lt_succ_self s,h⟩|exact h)
theorem T.round {P:Program} {r:Option Nat} {base:World} {n m:Nat} {c:Code} {Q:ju} {ρ:Env} {O:List Item} (h:T P r base n c (GU (MN P r base n c Q m) Q) ρ O):MN P r base n c Q (m+1) ρ O:=h
end Go.Lx

namespace Go.Lx
open Go.RowKit
structure Mk (Wt:Type) where
 i:Nat
 d:Nat
 val:Wt→Value
 iH:Wt→List Item
section
variable {X:PX} {P:Program} {r:Option Nat} {base:World} {n:Nat} {ρ:Env} {O S:List Item} {tail:List Nat} {ops:Array Oper} {K:Env→List Item→Prop} {Wt:Type}
theorem Sub.trans {A B C:List Item} (h:Sub A B) (h2:Sub B C):Sub A C:=by
 obtain⟨l1,p1,s1⟩:=h
 obtain⟨l2,p2,s2⟩:=h2
 obtain⟨l3,p3,s3⟩:=List.exists_perm_sublist s1 p2
 exact⟨l3,p1.trans p3.symm,s3.trans s2⟩
theorem getD_lt {l:Array Bool} {j:Nat} (h:j<l.size) (a b:Bool):l.getD j a=l.getD j b:=by simp[h]
def left (listed:Array Bool) (mk:List (Mk Wt)):Nat:=(mk.filter fun q=>!listed.getD q.i false).length
end
end Go.Lx

namespace Go.Lx
open Go.RowKit
def rD (φ:Prop) (L:List Item):Item where
 blocks:=L.flatMap Item.blocks
 P w:=φ∧ ∀it∈L,it.P w
 loc w w' h:=fun hp=>⟨hp.1,fun it hi=>it.loc w w' (fun b hb=>h b (List.mem_flatMap.2 ⟨it,hi,hb⟩)) (hp.2 it hi)⟩
theorem vh {base w:World} {φ:Prop} {L M:List Item} (Sa:φ) (h:Inv base (L++M) w):Inv base (rD φ L::M) w:=
 ⟨h.below,fun it hi=>(List.mem_cons.1 hi).elim (fun e=>e▸⟨Sa,fun x hx=>h.holds x (List.mem_append_left _ hx)⟩) fun hm=>h.holds it (List.mem_append_right _ hm),
  fun it hi b hb=>(List.mem_cons.1 hi).elim (fun e=>by
   subst e
   obtain⟨x,hx,Z4⟩:=List.mem_flatMap.1 hb
   exact h.fresh x (List.mem_append_left _ hx) b Z4) fun hm=>h.fresh it (List.mem_append_right _ hm) b hb,
  by have:=h.nodup;rwa[List.flatMap_append]at this⟩
theorem yE {base w:World} {φ:Prop} {L M:List Item} (h:Inv base (rD φ L::M) w):φ∧Inv base (L++M) w:=by
 have h0:=h.holds (rD φ L) List.mem_cons_self
 refine⟨h0.1,h.below,fun it hi=>(List.mem_append.1 hi).elim (h0.2 it) fun hm=>h.holds it (List.mem_cons_of_mem _ hm),fun it hi b hb=>(List.mem_append.1 hi).elim (fun hm=>h.fresh (rD φ L) List.mem_cons_self b (List.mem_flatMap.2 ⟨it,hm,hb⟩)) fun hm=>h.fresh it (List.mem_cons_of_mem _ hm) b hb,?_⟩
 have:=h.nodup
 rwa[List.flatMap_append]
section
variable {P:Program} {r:Option Nat} {base:World} {n:Nat} {c:Code} {Q:ju} {ρ:Env} {φ:Prop} {L M:List Item} {f:FuncId} {args:List Value}
theorem oE (Sa:φ) (h:T P r base n c Q ρ (rD φ L::M)):T P r base n c Q ρ (L++M):=fun a w N D hM ha hi=>
 h a w N D hM ha (by rw[List.append_assoc]at hi;exact vh Sa hi)
theorem Cy (h:φ→T P r base n c Q ρ (L++M)):T P r base n c Q ρ (rD φ L::M):=fun a w N D hM ha hi=>by
 have hu:=yE (M:=M++(mI D++N)) hi
 exact h hu.1 a w N D hM ha (by rw[List.append_assoc];exact hu.2)
theorem bw.Mt {O:List Item} {R R':Value→List Item→Prop} (h:bw P base f args O R) (hr: ∀v O',R v O'→ ∃φ L M,φ∧O'=L++M∧R' v (rD φ L::M)):bw P base f args O R':=fun w N hI=>
 (h w N hI).mono fun _ _ ⟨v,O',h1,h2,h3⟩=>by
  obtain⟨φ,L,M,Sa,rfl,hR⟩:=hr v O' h3
  exact⟨v,rD φ L::M,h1,vh (M:=M++N) Sa (by rw[←List.append_assoc];exact h2),hR⟩
end
structure DK where
 nb:Option Addr
 nc:Nat
 fb:Option Addr
 fc:Nat
 qs:List Rec
abbrev dC (d:bY) (k:DK):List Value:=cB d k.nb k.nc k.fb k.fc
abbrev dV (d:bY) (k:DK):Value:=.agg (dC d k).toArray
abbrev At (w:World) (d:bY) (k:DK):Prop:=eA w d k.nb (bO k.qs) k.fb
def dI (II Bo I:TypeId) (d:bY) (k:DK):Item:=rD (nums k.qs=d.next) ([ak k.nb k.nc II 1 (bO k.qs),ak k.fb k.fc Bo 1 (aU d.aA)]++bl I k.qs)
theorem Inv.at {base w:World} {O:List Item} {II Bo I:TypeId} {d:bY} {k:DK} (hI:Inv base O w) (h:dI II Bo I d k∈O):At w d k:=by
 have h0:=hI.holds _ h
 have g: ∀it∈[ak k.nb k.nc II 1 (bO k.qs),ak k.fb k.fc Bo 1 (aU d.aA)]++bl I k.qs,it.P w:=h0.2
 refine⟨rowP.sl (g (ak k.nb k.nc II 1 (bO k.qs)) (by simp)),?_,rowP.sl (g (ak k.fb k.fc Bo 1 (aU d.aA)) (by simp))⟩
 rw[←h0.1]
 refine⟨by simp,fun i x hx=>?_⟩
 rw[List.getElem?_map]at hx
 obtain⟨q,hq,rfl⟩:=Option.map_eq_some_iff.1 hx
 refine⟨q.b,q.c,by rw[List.getElem?_map,hq];rfl,?_⟩
 have:(Rec.lZ I q).P w:=g _ (List.mem_append_right _ (List.mem_map_of_mem (List.mem_of_getElem? hq)))
 exact rowP.sl this
theorem zT {w:World}: ∀ {vs:List Value} {rs:List (List Int)},mg w vs rs→ ∃qs:List Rec,bO qs=vs∧nums qs=rs
 | [],[],_=>⟨[],F,F⟩
 | [],_::_,h=>absurd h.1 (by simp)
 |_::_,[],h=>absurd h.1 (by simp)
 |v::vs,x::rs,h=>by
  obtain⟨b,c,h1,h2⟩:=h.get (i:=0) (by simp)
  obtain⟨qs,e1,e2⟩:=zT (vs:=vs) (rs:=rs) ⟨by simpa using h.1,fun i y hy=>by simpa using h.2 (i+1) y (by simpa using hy)⟩
  refine⟨⟨b,c,x⟩::qs,?_,by simp[e2]⟩
  simp only[List.map_cons,e1,Rec.val]
  simp at h1
  rw[h1]
theorem bw.dk {P:Program} {base:World} {f:FuncId} {args:List Value} {O:List Item} {II Bo I:TypeId} {D:bY} {g:Value→Value} (h:bw P base f args O fun v N=> ∃oF oG kI kJ qs,v=g (.agg (cB D oF oG kI kJ).toArray)∧N=[ak oF oG II 1 (bO qs),ak kI kJ Bo 1 (aU D.aA)]++bl I qs∧nums qs=D.next):
  bw P base f args O fun v N=> ∃k:DK,v=g (dV D k)∧N=[dI II Bo I D k]:=
 h.Mt fun v O' hR=>by
  obtain⟨nb,nc,fb,fc,qs,rfl,rfl,hq⟩:=hR
  exact⟨nums qs=D.next,_,[],hq,(List.append_nil _).symm,⟨nb,nc,fb,fc,qs⟩,F,F⟩
theorem Inv.oH {base w:World} {O:List Item} {d:bY} {k:DK} (hI:Inv base O w) (h:At base d k):At w d k:=hI.u4 h
end Go.Lx

namespace Go.Lx
open Go.RowKit
section
variable {P:Program} {base:World} {ρ:Env} {O:List Item} {dst:Option Nat} {t:TypeId} {p:String} {af:Array Edge} {g:Option (Nat×Bool)}
theorem ij {x y:Operand} {T E:TypeId} {b o n i:Nat} {k:IntKind} {z:Value} {s fx:Nat} (hu:P.underlying T=some (.array n E)) (hi:eS P E z s fx) (hx:ev ρ x=.pointer (some ⟨b,o,none⟩)) (hy:ev ρ y=.int k (i:Int)) (eU:i<n):
  QT P base ⟨dst,.indexAddr T x y,t,p,af,g⟩ ρ O (.pointer (some ⟨b,o+i*s,none⟩)):=fun w _=>by
 have h2:(i:Int)<(n:Int):=by omega
 simp[execOp,hx,hy,Instr.indexAt,asIntOf,aV hu,eU,bp hi,Instr.sureAddr,Addr.add]
 try (intro h;rcases h with h|h<;>simp[h])
end
end Go.Lx

namespace Go.Lx
open Go.RowKit
theorem Ap {e:Edge} (hb:Region.binds .any e=true): ∀ {l:List Edge},e∈l→(ru l).testBit e.on=true
 |a::l,h=>by
  rw[ru,Nat.testBit_or,Bool.or_eq_true]
  rcases List.mem_cons.1 h with rfl|h
  ·exact .inl (by rw[if_pos hb,Nat.one_shiftLeft,Nat.testBit_two_pow];simp)
  ·exact .inr (Ap hb h)
def yC (ops:Array Oper) (d j:Nat):Bool:=!d.testBit j&&Nat.beq (kZ ops j&&&d) (kZ ops j)
def DP (ops:Array Oper) (d i:Nat):Bool:=match ops[i]? with
 |none=>false
 |some oi=>(List.range ops.size).all fun j=>Nat.beq j i||d.testBit j||(kZ ops j).testBit i||match ops[j]? with
  |some oj=>oi.apart ops oj
  |none=>true
def qe (ops:Array Oper) (tail cx:List Nat):List (Nat×Nat)→Nat→Bool
 | [],d=>(List.range ops.size).all fun j=>!yC ops d j
 |(i,0)::l,d=>(ow ops tail i&&DP ops d i&&Nat.blt i ops.size&&yC ops d i)&&qe ops tail cx l (d|||1<<<i)
 |(i,3)::l,d=>(ow ops cx i&&DP ops d i&&Nat.blt i ops.size&&yC ops d i)&&qe ops tail cx l (d|||1<<<i)
 |(i,_)::l,d=>(Nat.blt i ops.size&&yC ops d i&&(List.range ops.size).all fun j=>Nat.beq j i||!yC ops d j)&&qe ops tail cx l (d|||1<<<i)
def nY (ops:Array Oper) (listed:Array Bool) (d:Nat):Prop:=listed.size=ops.size∧ ∀k,listed.getD k false=d.testBit k
theorem nY.start (ops:Array Oper):nY ops (Array.replicate ops.size false) 0:=⟨by simp,fun k=>by
 rw[Nat.zero_testBit,Array.getD_eq_getD_getElem?,Array.getElem?_replicate]
 split<;>rfl⟩
theorem nY.set {ops:Array Oper} {listed:Array Bool} {d i:Nat} (h:nY ops listed d) (hi:i<ops.size):nY ops (listed.setIfInBounds i true) (d|||1<<<i):=⟨by simpa using h.1,fun k=>by
 rw[Nat.testBit_or,Nat.one_shiftLeft,Nat.testBit_two_pow,←h.2 k]
 by_cases e:i=k
 ·subst e
  have:i<listed.size:=by rw[h.1];exact hi
  simp[this]
 ·rw[getD_set_ne false e,decide_eq_false e,Bool.or_false]⟩
theorem nY.ready {ops:Array Oper} {listed:Array Bool} {d j:Nat} (h:nY ops listed d) (hj:j<ops.size):j∈Region.ready .any ops listed↔yC ops d j=true:=by
 have e1:listed.getD j true=d.testBit j:=by rw[←h.2 j];exact getD_lt (by rw[h.1];exact hj) _ _
 have ho:ops[j]? =some ops[j]:=Array.getElem?_eq_getElem hj
 have hm:kZ ops j=ru ops[j].after.toList:=by unfold kZ;rw[ho]
 rw[mem_ready,e1]
 unfold yC
 rw[Bool.and_eq_true,Bool.not_eq_true',Nat.beq_eq,hm]
 refine and_congr_right fun _=>?_
 constructor
 ·rintro⟨o,rh,ku⟩
  rw[ho]at rh;cases rh
  refine Nat.eq_of_testBit_eq fun k=>?_
  rw[Nat.testBit_and]
  cases hk:(ru ops[j].after.toList).testBit k with
  |false=>rfl
  |true=>
   obtain⟨e,he,hb,rfl⟩:=sD hk
   have:=ku e (by simpa using he) hb
   rw[h.2]at this
   rw[this];rfl
 ·intro he
  refine⟨_,ho,fun e uf hb=>?_⟩
  have hk:=Ap hb (l:=ops[j].after.toList) (by simpa using uf)
  rw[h.2]
  rw[←he,Nat.testBit_and,Bool.and_eq_true]at hk
  exact hk.2
theorem vg {ops:Array Oper} {listed:Array Bool} {j:Nat} (h:j∈Region.ready .any ops listed):j<ops.size:=by
 obtain⟨_,o,ho,_⟩:=mem_ready.1 h
 exact(Array.getElem?_eq_some_iff.1 ho).1
theorem Fx {l:List Nat} {i:Nat} (hn:l.Nodup) (h: ∀j,j∈l↔j=i):l=[i]:=by
 cases l with
 |nil=>exact absurd ((h i).2 F) (by simp)
 |cons a l=>
  obtain rfl:a=i:=(h a).1 (by simp)
  have h1:=(List.nodup_cons.1 hn).1
  cases l with
  |nil=>rfl
  |cons b l=>
   have:b=a:=(h b).1 (by simp)
   subst this
   exact absurd (by simp) h1
theorem Aq (ops:Array Oper) (listed:Array Bool):(Region.ready .any ops listed).Nodup:=by
 unfold Region.ready
 exact List.nodup_range.filter _
theorem DQ {ops:Array Oper} {listed:Array Bool} {d i:Nat} (h:nY ops listed d) (hf:DP ops d i=true):Region.free .any ops listed i=true:=by
 unfold DP at hf
 unfold Region.free
 cases ho:ops[i]? with
 |none=>rw[ho]at hf;cases hf
 |some oi=>
  rw[ho]at hf
  simp only at hf⊢
  rw[List.all_eq_true]at hf⊢
  intro j hj
  have R_:j<ops.size:=List.mem_range.1 hj
  have h1:=hf j hj
  have e1:listed.getD j true=d.testBit j:=by rw[←h.2 j];exact getD_lt (by rw[h.1];exact R_) _ _
  have Of:ops[j]? =some ops[j]:=Array.getElem?_eq_getElem R_
  rw[Of]at h1⊢
  simp only[Bool.or_eq_true]at h1⊢
  rw[e1]
  rcases h1 with((h1|h1)|h1)|h1
  ·exact .inl (.inl (by simpa using h1))
  ·exact .inl (.inr h1)
  ·obtain⟨o,rh,e,he,hb,Z3⟩:=mi h1
   rw[Of]at rh;cases rh
   exact .inr (.inl (Array.any_eq_true'.2 ⟨e,he,by rw[hb,Z3];simp⟩))
  ·exact .inr (.inr h1)
theorem yD {ops:Array Oper} {tail cx:List Nat} {i:Nat} {l:List (Nat×Nat)} {listed:Array Bool} {d:Nat} (h:nY ops listed d) (ih: ∀ {listed:Array Bool} {d:Nat},nY ops listed d→qe ops tail cx l d=true→iv ops tail cx l listed=true) (hw:((Nat.blt i ops.size&&yC ops d i&&(List.range ops.size).all fun j=>Nat.beq j i||!yC ops d j)&&qe ops tail cx l (d|||1<<<i))=true):((Region.ready .any ops listed== [i])&&iv ops tail cx l (listed.setIfInBounds i true))=true:=by
 simp only[Bool.and_eq_true,Nat.blt_eq,List.all_eq_true,Bool.or_eq_true,Nat.beq_eq,Bool.not_eq_true']at hw
 obtain⟨⟨⟨h1,h2⟩,h3⟩,h4⟩:=hw
 rw[Bool.and_eq_true]
 refine⟨?_,ih (h.set h1) h4⟩
 rw[beq_iff_eq]
 refine Fx (Aq _ _) fun j=>⟨fun hj=>?_,fun e=>e▸(h.ready h1).2 h2⟩
 have R_:=vg hj
 rcases h3 j (List.mem_range.2 R_)with e|e
 ·exact e
 ·rw[(h.ready R_).1 hj]at e;cases e
theorem mT {ops:Array Oper} {tail cx:List Nat}: ∀ {l:List (Nat×Nat)} {listed:Array Bool} {d:Nat},nY ops listed d→qe ops tail cx l d=true→iv ops tail cx l listed=true
 | [],listed,d,h,hw=>by
  simp only[qe,List.all_eq_true]at hw
  show(Region.ready .any ops listed).isEmpty=true
  cases hr:Region.ready .any ops listed with
  |nil=>rfl
  |cons j r=>
   have hj:j∈Region.ready .any ops listed:=by rw[hr];simp
   have h1:=hw j (List.mem_range.2 (vg hj))
   rw[(h.ready (vg hj)).1 hj]at h1;cases h1
 |(i,0)::l,listed,d,h,hw=>by
  simp only[qe,Bool.and_eq_true,Nat.blt_eq]at hw
  obtain⟨⟨⟨⟨h1,h2⟩,h3⟩,h4⟩,h5⟩:=hw
  simp only[iv,Bool.and_eq_true]
  exact⟨⟨⟨h1,DQ h h2⟩,by simpa using(h.ready h3).2 h4⟩,mT (h.set h3) h5⟩
 |(i,3)::l,listed,d,h,hw=>by
  simp only[qe,Bool.and_eq_true,Nat.blt_eq]at hw
  obtain⟨⟨⟨⟨h1,h2⟩,h3⟩,h4⟩,h5⟩:=hw
  simp only[iv,Bool.and_eq_true]
  exact⟨⟨⟨h1,DQ h h2⟩,by simpa using(h.ready h3).2 h4⟩,mT (h.set h3) h5⟩
 |(i,1)::l,listed,d,h,hw=>yD h mT hw
 |(i,2)::l,listed,d,h,hw=>yD h mT hw
 |(i,m+4)::l,listed,d,h,hw=>yD h mT hw
def MO (ops:Array Oper) (l:List (Nat×Nat)):Bool:=(Region.noSelect ops&&iR ops&&Nat.beq l.length ops.size&&(l.all fun q=>(q.2==2||!(mK l).contains q.1)&&(q.2==2||q.2==4||!(ke l).contains q.1)))&&qe ops (mK l) (ke l) l 0
theorem Aj {ops:Array Oper} {l:List (Nat×Nat)} (h:MO ops l=true):uZ ops l=true:=by
 simp only[MO,Bool.and_eq_true,Nat.beq_eq]at h
 obtain⟨⟨⟨⟨h1,h2⟩,h3⟩,h4⟩,h5⟩:=h
 simp only[uZ,Bool.and_eq_true]
 exact⟨⟨⟨⟨h1,h2⟩,by rw[h3];simp⟩,h4⟩,mT (nY.start ops) h5⟩
end Go.Lx


/- Contracts of functions of the program, and what they answer. Conditions: those each theorem names. -/
import Derived.Test.YtgdbfideeeegmaaGreatDoorA1
import Derived.Shelf.Strconv.Itoa3
import Derived.Lib.AppendIntMem
import Derived.Lib.TrailingZeros
import Derived.Maps.RangeRun
import Derived.Test.YtgdbfideeeegmaaGreatDoorRows
set_option linter.unusedSectionVars false
set_option linter.unusedSimpArgs false
set_option linter.unusedVariables false
set_option linter.unnecessarySimpa false
set_option maxHeartbeats 8000000
set_option maxRecDepth 20000
namespace Go.Lx
section
variable {α:Type} [DecidableEq α]
def ix (x:α):List α→Nat
 | []=>0
 |k::ks=>if x=k then 0 else ix x ks+1
theorem pS {x:α}: ∀ {ks:List α},x∈ks→ix x ks<ks.length
 |k::ks,h=>by
  simp only[ix]
  split
  ·simp
  ·rename_i e
   have:=pS ((List.mem_cons.1 h).resolve_left e)
   simp;omega
theorem nr {x:α}: ∀ {ks:List α},x∈ks→ks[ix x ks]? =some x
 |k::ks,h=>by
  simp only[ix]
  split
  ·rename_i e;simp[e]
  ·rename_i e
   simpa using nr ((List.mem_cons.1 h).resolve_left e)
theorem QR {x y:α} {ks:List α} (hx:x∈ks) (hy:y∈ks) (h:ix x ks=ix y ks):x=y:=by
 have h1:=nr hx
 rw[h,nr hy]at h1
 exact(Option.some.inj h1).symm
theorem jz {x:α} {ms:List α}: ∀ {ks:List α},x∈ks→ix x (ks++ms)=ix x ks
 |k::ks,h=>by
  simp only[List.cons_append,ix]
  split
  ·rfl
  ·rename_i e;rw[jz ((List.mem_cons.1 h).resolve_left e)]
theorem ei {x:α} {ms:List α}: ∀ {ks:List α},x∉ks→ix x (ks++ms)=ks.length+ix x ms
 | [],_=>by simp
 |k::ks,h=>by
  simp only[List.mem_cons,not_or]at h
  simp only[List.cons_append,ix,h.1,if_false,ei h.2,List.length_cons]
  omega
def add (ks:List α) (k:α):List α:=if k∈ks then ks else ks++[k]
def dd (l:List α):List α:=l.foldl add []
theorem pA {ks:List α} {k x:α}:x∈add ks k↔x∈ks∨x=k:=by
 unfold add
 split
 ·rename_i h
  exact⟨.inl,fun h'=>h'.elim id (fun e=>e▸h)⟩
 ·simp
theorem kT {ks:List α} {k:α} (h:ks.Nodup):(add ks k).Nodup:=by
 unfold add
 split
 ·exact h
 ·rename_i hk
  rw[List.nodup_append]
  refine⟨h,by simp,fun a ha b hb e=>?_⟩
  simp at hb;subst hb;subst e;exact hk ha
theorem gk (ks:List α) (k:α):ks<+:add ks k:=by
 unfold add
 split
 ·exact List.prefix_refl _
 ·exact List.prefix_append _ _
theorem eL: ∀(l ks:List α),ks<+:l.foldl add ks
 | [],ks=>List.prefix_refl _
 |k::l,ks=>(gk ks k).trans (eL l (add ks k))
theorem sK (l m:List α):dd (l++m)=m.foldl add (dd l):=by simp[dd]
theorem yX (l:List α) (k:α):dd (l++[k])=add (dd l) k:=by simp[dd]
theorem iz {l:List α} {x:α}:x∈dd l↔x∈l:=by
 have: ∀(l ks:List α),x∈l.foldl add ks↔x∈ks∨x∈l:=by
  intro l
  induction l with
  |nil=>intro ks;simp
  |cons k l ih=>intro ks;rw[List.foldl_cons,ih,pA,List.mem_cons,or_assoc]
 rw[dd,this];simp
theorem e_ {ks ms:List α} (h:ks<+:ms) {x:α} (hx:x∈ks):ix x ms=ix x ks:=by
 obtain⟨t,rfl⟩:=h
 exact jz hx
theorem iE {x:α}: ∀(ks:List α) (i:Nat),j9 x (ks.zipIdx i)=if x∈ks then some (i+ix x ks)else none
 | [],i=>by simp[j9]
 |k::ks,i=>by
  simp only[List.zipIdx_cons,j9]
  by_cases e:x=k
  ·subst e;simp[ix]
  ·rw[if_neg e,iE ks (i+1)]
   by_cases h:x∈ks
   ·simp[h,e,ix];omega
   ·simp[h,e]
theorem jN (ks:List α) (i:Nat):(ks.zipIdx i).map Prod.fst=ks:=by
 induction ks generalizing i with
 |nil=>rfl
 |cons k ks ih=>simp[List.zipIdx_cons]
end
def dP (cs:List Nat) (r:List Int):List Nat:=r.map fun to=>cs.getD to.toNat 0
def vQ (d:bU) (cs:List Nat) (s:Nat):List UInt8:=fP (cs.getD s 0) (dP cs (d.next.getD s []))
def gE (d:bU) (cs:List Nat):List (List UInt8):=(List.range d.next.length).map (vQ d cs)
def gu (d:bU) (cs:List Nat):List Nat:=(gE d cs).map fun k=>ix k (dd (gE d cs))
theorem Br (l:List UInt8):bZ (l++[32])=bZ l++[Value.int .u8 32]:=by simp
theorem Gh {a j:Nat} {l:List Nat} (hj:j<l.length):fP a (l.take (j+1))=fP a (l.take j)++[32]++Lib.decDigits l[j]:=by
 rw[List.take_succ_eq_append_getElem hj,fP,fP,yf];simp
theorem xV: ∀ {l:List Nat},(∀x∈l,x<10000)→(gU l).length≤5*l.length
 | [],_=>by simp[gU]
 |a::l,h=>by
  have h1:=qY 3 a (by have:=h a (by simp);omega)
  have h2:=xV (l:=l) (fun x hx=>h x (by simp[hx]))
  simp only[gU,List.length_cons,List.length_append]
  omega
theorem JA {a:Nat} {l:List Nat} (ha:a<10000) (h: ∀x∈l,x<10000):(fP a l).length≤4+5*l.length:=by
 have h1:=qY 3 a (by omega)
 have h2:=xV h
 simp only[fP,List.length_append]
 omega
theorem C8 {d:bU} {cs:List Nat} {k:Nat} (hk:k<d.next.length):(gE d cs).take (k+1)=(gE d cs).take k++[vQ d cs k]:=by
 have hl:k<(gE d cs).length:=by simpa[gE]using hk
 rw[List.take_succ_eq_append_getElem hl]
 simp[gE]
theorem Mo {d:bU} {cs:List Nat} {k:Nat} (hk:k<d.next.length) (hc:k<cs.length):vQ d cs k=fP cs[k] (dP cs d.next[k]):=by
 simp[vQ,hk,hc]
theorem Mn {cs:List Nat} (h: ∀x∈cs,x<10000) {r:List Int}: ∀x∈dP cs r,x<10000:=by
 intro x hx
 obtain⟨to,_,rfl⟩:=List.mem_map.1 hx
 rw[List.getD_eq_getElem?_getD]
 cases e:cs[to.toNat]? with
 |none=>simp
 |some y=>exact h y (List.mem_of_getElem? e)
theorem sJ {α:Type} [DecidableEq α] (l:List α):(dd l).length≤l.length:=by
 have: ∀(l ks:List α),(l.foldl add ks).length≤ks.length+l.length:=by
  intro l
  induction l with
  |nil=>intro ks;simp
  |cons k l ih=>
   intro ks
   have h1:=ih (add ks k)
   have h2:(add ks k).length≤ks.length+1:=by unfold add;split<;>simp
   simp only[List.foldl_cons,List.length_cons]
   omega
 simpa[dd]using this l []
theorem JC {d:bU} {cs:List Nat} {k s:Nat} (hs:s<k) (hk:k≤d.next.length):vQ d cs s∈(gE d cs).take k:=by
 rw[gE,←List.map_take]
 refine List.mem_map_of_mem ?_
 rw[List.take_range]
 simp;omega
theorem gg (cs:List Nat) (r:List Int):(dP cs r).length=r.length:=List.length_map _
theorem BD {cs:List Nat} {r:List Int} {j:Nat} (hj:j<r.length) (h:r[j].toNat<cs.length):(dP cs r)[j]'(by rw[gg];exact hj)=cs[r[j].toNat]:=by
 simp[dP,h]
theorem JB {cs:List Nat} {r:List Int} {a j:Nat} (hj:j<r.length) (h:r[j].toNat<cs.length):fP a ((dP cs r).take (j+1))=fP a ((dP cs r).take j)++[32]++Lib.decDigits cs[r[j].toNat]:=by
 rw[Gh (by rw[gg];exact hj),BD hj h]
def kx (d:bU):List Nat:=(List.range d.next.length).map fun s=>if d.ax.getD s false≠d.ax.getD 0 false then 1 else 0
def fN (d:bU):Nat→List Nat
 |0=>kx d
 |i+1=>gu d (fN d i)
theorem dX (d:bU) (i:Nat):(fN d i).length=d.next.length:=by
 cases i<;>simp[fN,kx,gu,gE]
theorem Dj {d:bU} {cs:List Nat} {x:Nat} (h:x∈gu d cs):x<d.next.length:=by
 obtain⟨k,hk,rfl⟩:=List.mem_map.1 h
 have h1:=pS (iz.2 hk)
 have h2:=sJ (gE d cs)
 have h3:(gE d cs).length=d.next.length:=by simp[gE]
 omega
theorem JG {d:bU} (hn:d.next.length<10000) (i:Nat): ∀x∈fN d i,x<10000:=by
 cases i with
 |zero=>
  intro x hx
  obtain⟨s,_,rfl⟩:=List.mem_map.1 hx
  split<;>omega
 |succ i=>intro x hx;have:=Dj hx;omega
theorem qC {d:bU} {i:Nat} (h:gu d (fN d i)=fN d i): ∀m,i≤m→fN d m=fN d i:=by
 intro m hm
 induction hm with
 |refl=>rfl
 |step _ ih=>rw[fN,ih,h]
def tV (tr:List UInt8→Nat→List UInt8) (L:Nat) (start:List UInt8):Nat→List (List UInt8)
 |0=>[start]
 |s+1=>((List.range L).map (tr ((tV tr L start s).getD s []))).foldl add (tV tr L start s)
def iu (tr:List UInt8→Nat→List UInt8) (L:Nat) (ks:List (List UInt8)) (s:Nat):List Int:=
 (List.range L).map fun x=>((ix (tr (ks.getD s []) x) ks:Nat):Int)
theorem fw {α:Type} [DecidableEq α] (f:Nat→α) (ks:List α) (x:Nat):((List.range (x+1)).map f).foldl add ks=add (((List.range x).map f).foldl add ks) (f x):=by
 rw[List.range_succ,List.map_append,List.foldl_append];rfl
theorem dc {α:Type} [DecidableEq α] {y:α}: ∀(l ks:List α),y∈l.foldl add ks↔y∈ks∨y∈l
 | [],ks=>by simp
 |k::l,ks=>by rw[List.foldl_cons,dc l,pA,List.mem_cons,or_assoc]
theorem je {ks ms:List (List UInt8)} (h:ks<+:ms) {s:Nat} (hs:s<ks.length):ms.getD s []=ks.getD s []:=by
 obtain⟨t,rfl⟩:=h
 rw[List.getD_eq_getElem?_getD,List.getD_eq_getElem?_getD,List.getElem?_append_left hs]
structure ni (tr:List UInt8→Nat→List UInt8) (L:Nat) (ks:List (List UInt8)) (s:Nat) (rs:List (List Int)):Prop where
 len:rs.length=s
 le:s≤ks.length
 row: ∀i,i<s→rs[i]? =some (iu tr L ks i)
 mem: ∀i,i<s→ ∀x,x<L→tr (ks.getD i []) x∈ks
theorem y7 {tr:List UInt8→Nat→List UInt8} {L:Nat} {ks ms:List (List UInt8)} (h:ks<+:ms) {s:Nat} (hs:s<ks.length) (hm: ∀x,x<L→tr (ks.getD s []) x∈ks):iu tr L ms s=iu tr L ks s:=by
 unfold iu
 apply List.map_congr_left
 intro x hx
 rw[je h hs,e_ h (hm x (List.mem_range.1 hx))]
theorem ni.snoc {tr:List UInt8→Nat→List UInt8} {L:Nat} {ks ms:List (List UInt8)} {s:Nat} {rs:List (List Int)} {ys:List Int} (h:ni tr L ks s rs) (hp:ks<+:ms) (hs:s<ks.length) (hy:ys=iu tr L ms s) (hm: ∀x,x<L→tr (ms.getD s []) x∈ms):ni tr L ms (s+1) (rs++[ys]):=by
 have Ds:=hp.length_le
 refine⟨by simp[h.len],by omega,fun i hi=>?_,fun i hi=>?_⟩
 ·by_cases e:i=s
  ·subst e;rw[List.getElem?_append_right (by rw[h.len];exact Nat.le_refl _),h.len,hy];simp
  ·rw[List.getElem?_append_left (by rw[h.len];omega),h.row i (by omega),y7 hp (by omega) (h.mem i (by omega))]
 ·by_cases e:i=s
  ·subst e;exact hm
  ·intro x hx
   rw[je hp (by omega)]
   exact hp.subset (h.mem i (by omega) x hx)
def EQ (l:List UInt8):Nat:=l.foldl (fun a b=>a*10+(b.toNat-48)) 0
theorem sT (u:Nat):EQ (Lib.decDigits u)=u:=by
 induction u using Nat.strongRecOn with
 |_ u ih=>
  by_cases h:u<10
  ·rw[ir h]
   show 0*10+((UInt8.ofNat (48+u)).toNat-48)=u
   rw[gI h];omega
  ·rw[lH h,EQ,List.foldl_append]
   have:=ih (u/10) (by omega)
   rw[EQ]at this
   rw[this]
   show u/10*10+((UInt8.ofNat (48+u%10)).toNat-48)=u
   rw[gI (by omega)];omega
def dY (d:bU) (o x:Nat):Nat:=((d.next.getD o []).getD x 0).toNat
def BY (d:bU) (k:List UInt8) (x:Nat):List UInt8:=Lib.decDigits (dY d (EQ k) x)
def kL (d:bU) (o:Nat):List Nat:=(List.range (2^d.vars.toNat)).map (dY d o)
def b_ (d:bU):Nat→List Nat
 |0=>[d.start.toNat]
 |s+1=>if s<(b_ d s).length then(kL d ((b_ d s).getD s 0)).foldl add (b_ d s)else b_ d s
def order (d:bU):List Nat:=b_ d d.next.length
def db (d:bU):bU where
 vars:=d.vars
 start:=0
 next:=(order d).map fun o=>(kL d o).map fun t=>((ix t (order d):Nat):Int)
 ax:=(order d).map fun o=>d.ax.getD o false
theorem Val.fF {d:bU} (hv:Val d) {o x:Nat} (ho:o<d.next.length) (hx:x<2^d.vars.toNat):dY d o x<d.next.length∧ ∃h:o<d.next.length,∃qO:x<d.next[o].length,d.next[o][x]=(dY d o x:Int):=by
 have hl:d.next[o].length=2^d.vars.toNat:=hv.len _ (List.getElem_mem ho)
 have qO:x<d.next[o].length:=by omega
 have h1:=hv.ok _ (List.getElem_mem ho) _ (List.getElem_mem qO)
 have e:dY d o x=d.next[o][x].toNat:=by simp[dY,ho,qO]
 exact⟨by omega,ho,qO,by omega⟩
theorem dE: ∀ {n:Nat} {l:List Nat},l.Nodup→(∀x∈l,x<n)→l.length≤n
 |0,l,_,hb=>by
  cases l with
  |nil=>simp
  |cons a l=>exact absurd (hb a (by simp)) (by omega)
 |n+1,l,h,hb=>by
  by_cases hn:n∈l
  ·have h1:=dE (n:=n) (h.erase n) fun x hx=>by
    have:=(List.Nodup.mem_erase_iff h).1 hx
    have:=hb x this.2
    omega
   rw[List.length_erase_of_mem hn]at h1
   omega
  ·have:=dE (n:=n) h fun x hx=>by
    have:=hb x hx
    have:x≠n:=fun e=>hn (e▸hx)
    omega
   omega
theorem ES {α β:Type} [DecidableEq α] [DecidableEq β] {f:α→β} (hf: ∀a b,f a=f b→a=b) (ks:List α) (k:α):(add ks k).map f=add (ks.map f) (f k):=by
 unfold add
 by_cases h:k∈ks
 ·rw[if_pos h,if_pos (List.mem_map_of_mem h)]
 ·rw[if_neg h,if_neg (fun hh=>by obtain⟨a,ha,e⟩:=List.mem_map.1 hh;exact h (hf _ _ e▸ha))]
  simp
theorem pV {α β:Type} [DecidableEq α] [DecidableEq β] {f:α→β} (hf: ∀a b,f a=f b→a=b): ∀(l ks:List α),(l.foldl add ks).map f=(l.map f).foldl add (ks.map f)
 | [],ks=>rfl
 |k::l,ks=>by rw[List.foldl_cons,pV hf l,ES hf,List.map_cons,List.foldl_cons]
theorem ET (d:bU): ∀(N:Nat),(∀i,i<N→i<(tV (BY d) (2^d.vars.toNat) (Lib.decDigits d.start.toNat) i).length)→
  tV (BY d) (2^d.vars.toNat) (Lib.decDigits d.start.toNat) N=(b_ d N).map Lib.decDigits
 |0,_=>rfl
 |N+1,h=>by
  have ih:=ET d N fun i hi=>h i (by omega)
  have hN:=h N (by omega)
  rw[ih,List.length_map]at hN
  rw[tV,ih,b_,if_pos hN,pV m_]
  congr 1
  rw[kL,List.map_map]
  apply List.map_congr_left
  intro x _
  have e:((b_ d N).map Lib.decDigits).getD N []=Lib.decDigits ((b_ d N).getD N 0):=by
   simp[hN]
  rw[e,BY,sT];rfl
theorem BE {d:bU} {N:Nat} (h:(b_ d N).length=N): ∀m,N≤m→b_ d m=b_ d N:=by
 intro m hm
 induction hm with
 |refl=>rfl
 | @step m hm ih=>
  have V5:N≤m:=hm
  rw[b_,ih,if_neg (by omega)]
theorem nX {d:bU} {N:Nat} (h:(b_ d N).length=N) (hn:N≤d.next.length):order d=b_ d N:=BE h _ hn
theorem Q2 (os:List Nat) (t:Nat):ix (Lib.decDigits t) (os.map Lib.decDigits)=ix t os:=by
 induction os with
 |nil=>rfl
 |cons o os ih=>
  simp only[List.map_cons,ix,ih]
  by_cases e:t=o
  ·simp[e]
  ·rw[if_neg e,if_neg (fun h=>e (m_ _ _ h))]
theorem tK: ∀ {a b:List Nat},a.map Lib.decDigits=b.map Lib.decDigits→a=b
 | [],[],_=>rfl
 | [],_::_,h=>by simp at h
 |_::_,[],h=>by simp at h
 |x::a,y::b,h=>by
  simp only[List.map_cons,List.cons.injEq]at h
  rw[m_ x y h.1,tK h.2]
theorem Gi {d:bU} {os:List Nat} {N:Nat} (iA: ∀i,i<N→i<(tV (BY d) (2^d.vars.toNat) (Lib.decDigits d.start.toNat) i).length)
  (lV:tV (BY d) (2^d.vars.toNat) (Lib.decDigits d.start.toNat) N=os.map Lib.decDigits) (gv:(tV (BY d) (2^d.vars.toNat) (Lib.decDigits d.start.toNat) N).length=N) (Ds:os.length≤d.next.length):os=order d∧os.length=N:=by
 have h1:os.length=N:=by rw[←gv,lV,List.length_map]
 have h2:os=b_ d N:=tK (by rw[←lV,ET d N iA])
 exact⟨by rw[nX (N:=N) (by rw[←h2];exact h1) (by omega)];exact h2,h1⟩
theorem J0 {d:bU} {os:List Nat} {N:Nat} {rs:List (List Int)} (lV:tV (BY d) (2^d.vars.toNat) (Lib.decDigits d.start.toNat) N=os.map Lib.decDigits) (hE:ni (BY d) (2^d.vars.toNat) (tV (BY d) (2^d.vars.toNat) (Lib.decDigits d.start.toNat) N) N rs) (ho:os=order d) (hN:os.length=N):rs=(db d).next:=by
 apply List.ext_getElem?
 intro i
 by_cases hi:i<N
 ·rw[hE.row i hi,lV]
  have ub:i<os.length:=by omega
  have e:(os.map Lib.decDigits).getD i []=Lib.decDigits os[i]:=by simp[ub]
  simp only[db,List.getElem?_map,←ho,List.getElem?_eq_getElem ub,Option.map_some,iu,e,BY,sT,kL,List.map_map]
  refine congrArg some (List.map_congr_left fun x _=>?_)
  simp only[Function.comp_def,Q2]
 ·rw[List.getElem?_eq_none (by rw[hE.len];omega),List.getElem?_eq_none (by simp[db,←ho];omega)]
def gr (d:bU) (cs:List Nat):Nat→List (List Int)×List Bool
 |0=>([],[])
 |k+1=>if cs.getD k 0<(gr d cs k).1.length then gr d cs k else
   ((gr d cs k).1++[(dP cs (d.next.getD k [])).map fun c:Nat=>(c:Int)],(gr d cs k).2++[d.ax.getD k false])
def quo (d:bU) (cs:List Nat):bU where
 vars:=d.vars
 start:=((cs.getD d.start.toNat 0:Nat):Int)
 next:=(gr d cs d.next.length).1
 ax:=(gr d cs d.next.length).2
theorem jn (d:bU) (cs:List Nat): ∀k,(gr d cs k).1.length=(gr d cs k).2.length∧(gr d cs k).1.length≤k
 |0=>by simp[gr]
 |k+1=>by
  have ih:=jn d cs k
  rw[gr]
  split
  ·exact⟨ih.1,by omega⟩
  ·simp;omega
end Go.Lx

namespace Go.Lx
theorem mO {α:Type} {p:List α→Prop} (h0:p []) (h1: ∀l x,p l→p (l++[x])): ∀l,p l:=fun l=>by
 rw[←List.reverse_reverse l]
 generalize l.reverse=m
 induction m with
 |nil=>exact h0
 |cons a m ih=>rw[List.reverse_cons];exact h1 _ _ ih
abbrev da (d:bU):Nat:=2^d.vars.toNat
def runN (d:bU) (s:Nat) (w:List Nat):Nat:=w.foldl (dY d) s
def cF (d:bU) (s:Nat):Bool:=d.ax.getD s false
def dst (d:bU) (s t:Nat) (w:List Nat):Prop:=cF d (runN d s w)≠cF d (runN d t w)
def Wd (d:bU) (w:List Nat):Prop:= ∀x∈w,x<da d
def code (w:List Nat):Nat:=w.foldl (fun a x=>a*65+(x+1)) 0
theorem eE (d:bU) (s:Nat) (w:List Nat) (x:Nat):runN d s (w++[x])=dY d (runN d s w) x:=by simp[runN]
end Go.Lx

namespace Go.Lx
open Go.RowKit
section
variable {P:Program} {r:Option Nat} {base:World} {n:Nat} {ρ:Env} {O:List Item} {Q:jk}
theorem He {x:Code} (K:Env→List Item→Prop) (h:T P r base n x (GZ K Q) ρ O) (hk: ∀ρ O,K ρ O→Q .normal ρ O):T P r base n x Q ρ O:=
 h.mono fun e ρ O h=>by cases e<;>first|exact hk ρ O h|exact h
variable {t:TypeId} {p:String} {af:Array Edge} {g:Option (Nat×Bool)} {dst:Option Nat}
theorem zR {x y:Operand} {T E U:TypeId} {b:Option Addr} {n c:Nat} (hu:P.underlying T=some (.slice E)) (hx:ev ρ x=.slice b n c) (hy:ev ρ y=.slice none 0 0):QT P base ⟨dst,.binOp .eql T x y U,t,p,af,g⟩ ρ O (.bool b.isNone):=fun w _=>by
 have h:(Op.equal T (.slice b n c) (.slice none 0 0)).run P w=.ok b.isNone w:=by
  show(Op.equalIn (9999+1) T _ _).run P w=_
  rw[Op.equalIn]
  cases b<;>simp[aT hu]
 simp[execOp,hx,hy,eqGuard,binOp,h]
theorem ny {x:Nat} (h:x<256):IntKind.u8.wrap (x:Int)=(x:Int):=by
 simp only[IntKind.wrap,IntKind.signed,IntKind.bits]
 simp
 omega
end
end Go.Lx

namespace Go.Lx
open Go.RowKit
theorem jW {d:bU} (hv:Val d) {s:Nat} (hs:s<d.next.length): ∀w,Wd d w→runN d s w<d.next.length:=by
 refine mO (fun _=>hs) ?_
 intro w x ih hw
 rw[eE]
 exact(hv.fF (ih fun y hy=>hw y (by simp[hy])) (hw x (by simp))).1
end Go.Lx
namespace Go.Lx
open Go.RowKit
end Go.Lx

namespace Go.Lx
section
variable {α β:Type} [DecidableEq α] [DecidableEq β]
def ul (l:List α):List Nat:=l.map fun k=>ix k (dd l)
theorem qA (l:List α):(ul l).length=l.length:=List.length_map _
theorem jy {l:List α} {i:Nat} {a:α} (h:l[i]? =some a):(ul l)[i]? =some (ix a (dd l)):=by
 rw[ul,List.getElem?_map,h];rfl
theorem Ez {l:List α} {i j:Nat} {a b:α} (hi:l[i]? =some a) (hj:l[j]? =some b):(ul l)[i]? =(ul l)[j]? ↔a=b:=by
 rw[jy hi,jy hj]
 refine⟨fun h=>QR (iz.2 (List.mem_of_getElem? hi)) (iz.2 (List.mem_of_getElem? hj)) (Option.some.inj h),fun h=>h▸rfl⟩
theorem jh {l:List α} {a:α} (h:a∈l):dd (l++[a])=dd l:=by
 rw[yX,add,if_pos (iz.2 h)]
theorem ji {l:List α} {a:α} (h:a∉l):dd (l++[a])=dd l++[a]:=by
 rw[yX,add,if_neg (fun hh=>h (iz.1 hh))]
theorem F3: ∀zs:List (α×β),(∀p∈zs,∀q∈zs,p.1=q.1↔p.2=q.2)→
  (dd (zs.map Prod.fst)).length=(dd (zs.map Prod.snd)).length∧ ∀p∈zs,ix p.1 (dd (zs.map Prod.fst))=ix p.2 (dd (zs.map Prod.snd)):=by
 refine mO (fun _=>⟨F,fun p hp=>by simp at hp⟩) ?_
 intro zs z ih h
 obtain⟨h1,h2⟩:=ih fun p hp q hq=>h p (List.mem_append_left _ hp) q (List.mem_append_left _ hq)
 have hz:z∈zs++[z]:=by simp
 have tP:z.1∈zs.map Prod.fst↔z.2∈zs.map Prod.snd:=by
  constructor
  ·intro hm
   obtain⟨p,hp,e⟩:=List.mem_map.1 hm
   exact List.mem_map.2 ⟨p,hp,((h p (List.mem_append_left _ hp) z hz).1 e)⟩
  ·intro hm
   obtain⟨p,hp,e⟩:=List.mem_map.1 hm
   exact List.mem_map.2 ⟨p,hp,((h p (List.mem_append_left _ hp) z hz).2 e)⟩
 simp only[List.map_append,List.map_cons,List.map_nil]
 by_cases hm:z.1∈zs.map Prod.fst
 ·rw[jh hm,jh (tP.1 hm)]
  refine⟨h1,fun p hp=>?_⟩
  rcases List.mem_append.1 hp with hp|hp
  ·exact h2 p hp
  ·simp only[List.mem_singleton]at hp
   subst hp
   obtain⟨q,hq,e⟩:=List.mem_map.1 hm
   have e2:=(h q (List.mem_append_left _ hq) p hz).1 e
   rw[←e,←e2];exact h2 q hq
 ·have zz:z.2∉zs.map Prod.snd:=fun hh=>hm (tP.2 hh)
  rw[ji hm,ji zz]
  refine⟨by simp[h1],fun p hp=>?_⟩
  rcases List.mem_append.1 hp with hp|hp
  ·rw[jz (iz.2 (List.mem_map_of_mem hp)),jz (iz.2 (List.mem_map_of_mem hp))]
   exact h2 p hp
  ·simp only[List.mem_singleton]at hp
   subst hp
   rw[ei (fun hh=>hm (iz.1 hh)),ei (fun hh=>zz (iz.1 hh)),h1]
   simp[ix]
theorem Jr: ∀zs:List (α×β),(∀p∈zs,∀q∈zs,p.1=q.1→p.2=q.2)→
  (dd (zs.map Prod.snd)).length≤(dd (zs.map Prod.fst)).length∧((dd (zs.map Prod.snd)).length=(dd (zs.map Prod.fst)).length→ ∀p∈zs,∀q∈zs,p.2=q.2→p.1=q.1):=by
 refine mO (fun _=>⟨Nat.le_refl _,fun _ p hp=>by simp at hp⟩) ?_
 intro zs z ih h
 obtain⟨h1,h2⟩:=ih fun p hp q hq=>h p (List.mem_append_left _ hp) q (List.mem_append_left _ hq)
 have hz:z∈zs++[z]:=by simp
 simp only[List.map_append,List.map_cons,List.map_nil]
 by_cases hm:z.1∈zs.map Prod.fst
 ·obtain⟨q,hq,e⟩:=List.mem_map.1 hm
  have e2:=h q (List.mem_append_left _ hq) z hz e
  have zz:z.2∈zs.map Prod.snd:=List.mem_map.2 ⟨q,hq,e2⟩
  rw[jh hm,jh zz]
  refine⟨h1,fun he p hp p' Rj ee=>?_⟩
  have Rh:=h2 he
  have lift: ∀p∈zs++[z],∃p0∈zs,p0.1=p.1∧p0.2=p.2:=fun p hp=>by
   rcases List.mem_append.1 hp with hp|hp
   ·exact⟨p,hp,F,F⟩
   ·simp only[List.mem_singleton]at hp;subst hp;exact⟨q,hq,e,e2⟩
  obtain⟨a,ha,a1,a2⟩:=lift p hp
  obtain⟨b,hb,b1,b2⟩:=lift p' Rj
  rw[←a1,←b1];exact Rh a ha b hb (by rw[a2,b2,ee])
 ·rw[ji hm]
  by_cases zz:z.2∈zs.map Prod.snd
  ·rw[jh zz]
   refine⟨by simp;omega,fun he=>?_⟩
   simp at he;omega
  ·rw[ji zz]
   refine⟨by simp;omega,fun he p hp p' Rj ee=>?_⟩
   have Rh:=h2 (by simpa using he)
   rcases List.mem_append.1 hp with gp|gp
   ·rcases List.mem_append.1 Rj with QS|QS
    ·exact Rh p gp p' QS ee
    ·have e:=List.mem_singleton.1 QS
     exact(zz (List.mem_map.2 ⟨p,gp,by rw[ee,e]⟩)).elim
   ·have e:=List.mem_singleton.1 gp
    rcases List.mem_append.1 Rj with QS|QS
    ·exact(zz (List.mem_map.2 ⟨p',QS,by rw[←ee,e]⟩)).elim
    ·rw[e,List.mem_singleton.1 QS]
theorem lx: ∀ {l:List α} {m:List β},l.length=m.length→(l.zip m).map Prod.fst=l∧(l.zip m).map Prod.snd=m
 | [],[],_=>⟨F,F⟩
 |a::l,b::m,h=>by
  obtain⟨h1,h2⟩:=lx (l:=l) (m:=m) (by simpa using h)
  simp[h1,h2]
theorem yY {l:List α} {m:List β} (h:l.length=m.length) {p:α×β} (hp:p∈l.zip m): ∃i:Nat,l[i]? =some p.1∧m[i]? =some p.2:=by
 obtain⟨i,hi⟩:=List.getElem?_of_mem hp
 refine⟨i,?_,?_⟩
 ·have:=congrArg (Option.map Prod.fst) hi
  rw[←List.getElem?_map,(lx h).1]at this;simpa using this
 ·have:=congrArg (Option.map Prod.snd) hi
  rw[←List.getElem?_map,(lx h).2]at this;simpa using this
theorem xL {l:List α} {m:List β} (hl:l.length=m.length) (h: ∀(i j:Nat) (a b:α) (a' b':β),l[i]? =some a→l[j]? =some b→m[i]? =some a'→m[j]? =some b'→(a=b↔a'=b')):ul l=ul m∧(dd l).length=(dd m).length:=by
 have h0:=F3 (l.zip m) fun p hp q hq=>by
  obtain⟨i,a1,a2⟩:=yY hl hp
  obtain⟨j,b1,b2⟩:=yY hl hq
  exact h i j _ _ _ _ a1 b1 a2 b2
 rw[(lx hl).1,(lx hl).2]at h0
 refine⟨?_,h0.1⟩
 apply List.ext_getElem?
 intro i
 by_cases hi:i<l.length
 ·have Fe:i<m.length:=by omega
  rw[jy (List.getElem?_eq_getElem hi),jy (List.getElem?_eq_getElem Fe)]
  have:(l[i],m[i])∈l.zip m:=by
   apply List.mem_of_getElem? (i:=i)
   rw[List.getElem?_zip_eq_some]
   exact⟨List.getElem?_eq_getElem hi,List.getElem?_eq_getElem Fe⟩
  exact congrArg some (h0.2 _ this)
 ·rw[List.getElem?_eq_none (by rw[qA];omega),List.getElem?_eq_none (by rw[qA];omega)]
end
def Kp (d:bU):Nat→Nat→Nat→Bool
 |0,s,t=>cF d s !=cF d t
 |k+1,s,t=>Kp d k s t||(List.range (da d)).any fun x=>Kp d k (dY d s x) (dY d t x)
theorem rE (d:bU): ∀k s t,Kp d k s t=true↔ ∃u,Wd d u∧u.length≤k∧dst d s t u
 |0,s,t=>by
  simp only[Kp,bne_iff_ne]
  constructor
  ·exact fun h=>⟨[],fun x hx=>by simp at hx,Nat.le_refl _,h⟩
  ·rintro⟨u,_,hl,h⟩
   have:u=[]:=List.eq_nil_of_length_eq_zero (by omega)
   subst this;exact h
 |k+1,s,t=>by
  simp only[Kp,Bool.or_eq_true,List.any_eq_true,List.mem_range,rE d k]
  constructor
  ·rintro(⟨u,h1,h2,h3⟩|⟨x,hx,u,h1,h2,h3⟩)
   ·exact⟨u,h1,by omega,h3⟩
   ·refine⟨x::u,fun y hy=>?_,by simp;omega,h3⟩
    rcases List.mem_cons.1 hy with rfl|hy
    ·exact hx
    ·exact h1 y hy
  ·rintro⟨u,h1,h2,h3⟩
   cases u with
   |nil=>exact .inl ⟨[],h1,by simp,h3⟩
   |cons x u=>exact .inr ⟨x,h1 x (by simp),u,fun y hy=>h1 y (by simp[hy]),by simpa using h2,h3⟩
theorem lQ {d:bU} (hv:Val d) {s x:Nat} (hs:s<d.next.length) (hx:x<da d):dY d s x<d.next.length:=(hv.fF hs hx).1
theorem Js {d:bU} (hv:Val d) {cs:List Nat} (l_:cs.length=d.next.length) {s t:Nat} (hs:s<d.next.length) (ht:t<d.next.length):
  vQ d cs s=vQ d cs t↔cs.getD s 0=cs.getD t 0∧ ∀x,x<da d→cs.getD (dY d s x) 0=cs.getD (dY d t x) 0:=by
 have Xh:(d.next.getD s []).length=da d:=by simp[hs];exact hv.len _ (List.getElem_mem hs)
 have eV:(d.next.getD t []).length=da d:=by simp[ht];exact hv.len _ (List.getElem_mem ht)
 have row: ∀s,(d.next.getD s []).length=da d→ ∀x,x<da d→(dP cs (d.next.getD s []))[x]? =some (cs.getD (dY d s x) 0):=by
  intro s hl x hx
  have qO:x<(d.next.getD s []).length:=by omega
  have e:(d.next.getD s []).getD x 0=(d.next.getD s [])[x]:=by rw[List.getD_eq_getElem?_getD,List.getElem?_eq_getElem qO];rfl
  rw[dP,List.getElem?_map,List.getElem?_eq_getElem qO,dY,e]
  rfl
 constructor
 ·intro h
  obtain⟨h1,h2⟩:=Hi h
  refine⟨h1,fun x hx=>?_⟩
  have a:=row s Xh x hx
  rw[h2,row t eV x hx]at a
  exact(Option.some.inj a).symm
 ·rintro⟨h1,h2⟩
  unfold vQ
  rw[h1]
  congr 1
  apply List.ext_getElem?
  intro x
  by_cases hx:x<da d
  ·rw[row s Xh x hx,row t eV x hx,h2 x hx]
  ·rw[List.getElem?_eq_none (by rw[gg];omega),List.getElem?_eq_none (by rw[gg];omega)]
theorem tG (d:bU) (cs:List Nat):gu d cs=ul (gE d cs):=rfl
theorem kU {d:bU} {cs:List Nat} {s:Nat} (hs:s<d.next.length):(gE d cs)[s]? =some (vQ d cs s):=by simp[gE,hs]
theorem qB {d:bU} {s:Nat} (hs:s<d.next.length):(kx d)[s]? =some (if cF d s≠cF d 0 then 1 else 0):=by
 simp[kx,hs,cF]
theorem iM {l:List Nat} {i a:Nat} (h:l[i]? =some a):l.getD i 0=a:=by rw[List.getD_eq_getElem?_getD,h];rfl
theorem ns {d:bU} (hv:Val d): ∀k s t,s<d.next.length→t<d.next.length→((fN d k).getD s 0=(fN d k).getD t 0↔Kp d k s t=false)
 |0,s,t,hs,ht=>by
  rw[fN,iM (qB hs),iM (qB ht),Kp]
  cases cF d s<;>cases cF d t<;>cases cF d 0<;>simp
 |k+1,s,t,hs,ht=>by
  have ih:=ns hv k
  rw[fN,tG]
  have h1:=Ez (kU (cs:=fN d k) hs) (kU (cs:=fN d k) ht)
  have e1:(ul (gE d (fN d k))).getD s 0=(ul (gE d (fN d k))).getD t 0↔(ul (gE d (fN d k)))[s]? =(ul (gE d (fN d k)))[t]? :=by
   rw[jy (kU hs),jy (kU ht),iM (jy (kU hs)),iM (jy (kU ht))]
   simp
  rw[e1,h1,Js hv (dX d k) hs ht,ih s t hs ht,Kp,Bool.or_eq_false_iff]
  refine and_congr Iff.rfl ?_
  rw[List.any_eq_false]
  constructor
  ·intro h x hx
   have qO:=List.mem_range.1 hx
   rw[Bool.not_eq_true,←ih _ _ (lQ hv hs qO) (lQ hv ht qO)]
   exact h x qO
  ·intro h x hx
   rw[ih _ _ (lQ hv hs hx) (lQ hv ht hx),←Bool.not_eq_true]
   exact h x (List.mem_range.2 hx)
end Go.Lx

namespace Go.Lx
section
variable {α:Type} [DecidableEq α]
theorem Me (l:List α):ul (ul l)=ul l:=by
 refine(xL (by rw[qA]) ?_).1
 intro i j a b a' b' hi hj ub wW
 have:=Ez ub wW
 rw[hi,hj]at this
 simpa using this
def first (p:Nat→Bool):Nat→Nat
 |0=>0
 |n+1=>if first p n<n then first p n else if p n then n else n+1
theorem Jt (p:Nat→Bool): ∀n,first p n≤n
 |0=>Nat.le_refl _
 |n+1=>by
  have:=Jt p n
  rw[first]
  split
  ·omega
  ·split<;>omega
end
theorem tH: ∀(l:List Nat),(∀x∈l,x≤1)→l.foldl add [0,1]=[0,1]∧(l.foldl add [0]=[0]∧1∉l∨l.foldl add [0]=[0,1]∧1∈l)
 | [],_=>by simp
 |x::l,h=>by
  obtain⟨h1,h2⟩:=tH l fun y hy=>h y (by simp[hy])
  have hx:=h x (by simp)
  have:x=0∨x=1:=by omega
  rcases this with rfl|rfl
  ·refine⟨?_,?_⟩
   ·rw[List.foldl_cons,show add [0,1] 0=[0,1] by decide];exact h1
   ·rw[List.foldl_cons,show add [0] 0=[0] by decide]
    rcases h2 with⟨a,b⟩|⟨a,b⟩
    ·exact .inl ⟨a,by simp[b]⟩
    ·exact .inr ⟨a,by simp[b]⟩
  ·refine⟨?_,?_⟩
   ·rw[List.foldl_cons,show add [0,1] 1=[0,1] by decide];exact h1
   ·rw[List.foldl_cons,show add [0] 1=[0,1] by decide]
    exact .inr ⟨h1,by simp⟩
theorem UI {l:List Nat} (h0:l.headD 0=0) (h: ∀x∈l,x≤1):ul l=l:=by
 cases l with
 |nil=>rfl
 |cons a l=>
  simp at h0
  subst h0
  have e:dd (0::l)=l.foldl add [0]:=by simp[dd,add]
  have h2:=(tH l fun y hy=>h y (by simp[hy])).2
  rw[ul,e]
  conv=>rhs;rw[←List.map_id (0::l)]
  apply List.map_congr_left
  intro x hx
  have LX:=h x hx
  have:x=0∨x=1:=by omega
  rcases this with rfl|rfl
  ·rcases h2 with⟨a,b⟩|⟨a,b⟩<;>rw[a]<;>decide
  ·rcases h2 with⟨a,b⟩|⟨a,b⟩
   ·simp at hx;exact absurd hx b
   ·rw[a];decide
theorem nu (d:bU): ∀k,ul (fN d k)=fN d k
 |0=>by
  refine UI ?_ ?_
  ·rw[fN]
   cases e:(kx d)with
   |nil=>rfl
   |cons a l=>
    have:(kx d)[0]? =some a:=by rw[e];rfl
    have hn:0<d.next.length:=by
     have:(kx d).length=d.next.length:=by simp[kx]
     rw[e]at this;simp at this;omega
    rw[qB hn]at this
    simpa using this.symm
  ·intro x hx
   obtain⟨s,_,rfl⟩:=List.mem_map.1 hx
   split<;>omega
 |k+1=>by rw[fN,tG,Me]
theorem Bm {d:bU} {k m s t:Nat} (h:k≤m) (hd:Kp d k s t=true):Kp d m s t=true:=by
 obtain⟨u,h1,h2,h3⟩:=(rE d k s t).1 hd
 exact(rE d m s t).2 ⟨u,h1,by omega,h3⟩
theorem EA {d:bU} {k s:Nat} (hs:s<d.next.length):(fN d k)[s]? =some ((fN d k).getD s 0):=by
 have:s<(fN d k).length:=by rw[dX];exact hs
 rw[List.getD_eq_getElem?_getD,List.getElem?_eq_getElem this];rfl
def yZ (d:bU) (k:Nat):Nat:=(dd (fN d k)).length
theorem F4 {d:bU} (hv:Val d) (k:Nat):yZ d k≤yZ d (k+1)∧(yZ d k=yZ d (k+1)→fN d (k+1)=fN d k):=by
 have hl:(fN d (k+1)).length=(fN d k).length:=by rw[dX,dX]
 have at_: ∀p∈(fN d (k+1)).zip (fN d k),∃s,s<d.next.length∧(fN d (k+1)).getD s 0=p.1∧(fN d k).getD s 0=p.2:=fun p hp=>by
  obtain⟨i,a1,a2⟩:=yY hl hp
  refine⟨i,?_,iM a1,iM a2⟩
  have:=(List.getElem?_eq_some_iff.1 a2).1
  rwa[dX]at this
 have h:=Jr ((fN d (k+1)).zip (fN d k)) fun p hp q hq e=>by
  obtain⟨s,hs,a1,a2⟩:=at_ p hp
  obtain⟨t,ht,b1,b2⟩:=at_ q hq
  rw[←a1,←b1,ns hv _ s t hs ht]at e
  rw[←a2,←b2,ns hv _ s t hs ht,←Bool.not_eq_true]
  intro hh
  rw[Bm (Nat.le_succ k) hh]at e;cases e
 rw[(lx hl).1,(lx hl).2]at h
 refine⟨h.1,fun e=>?_⟩
 have h2:=h.2 e
 rw[←nu d (k+1),←nu d k]
 refine(xL hl ?_).1
 intro i j a b a' b' hi hj ub wW
 have hm: ∀ {i a a'},(fN d (k+1))[i]? =some a→(fN d k)[i]? =some a'→(a,a')∈(fN d (k+1)).zip (fN d k):=fun {i a a'} x y=>by
  apply List.mem_of_getElem? (i:=i)
  rw[List.getElem?_zip_eq_some]
  exact⟨x,y⟩
 refine⟨fun e=>?_,h2 _ (hm hi ub) _ (hm hj wW)⟩
 have Cb:i<d.next.length:=by have:=(List.getElem?_eq_some_iff.1 ub).1;rwa[dX]at this
 have Zp:j<d.next.length:=by have:=(List.getElem?_eq_some_iff.1 wW).1;rwa[dX]at this
 rw[←iM hi,←iM hj,ns hv _ i j Cb Zp]at e
 rw[←iM ub,←iM wW,ns hv _ i j Cb Zp,←Bool.not_eq_true]
 intro hh
 rw[Bm (Nat.le_succ k) hh]at e;cases e
theorem Mf (d:bU) (k:Nat):yZ d k≤d.next.length:=by
 have:=sJ (fN d k)
 rw[dX]at this;exact this
theorem Ju {d:bU} (hv:Val d) (k:Nat):0<yZ d k:=by
 have h:(fN d k).getD 0 0∈dd (fN d k):=iz.2 (List.mem_of_getElem? (EA hv.n0))
 exact List.length_pos_of_mem h
theorem Bn {d:bU} (hv:Val d): ∀k,(∃j,j<k∧fN d (j+1)=fN d j)∨k+1≤yZ d k
 |0=>.inr (Ju hv 0)
 |k+1=>by
  rcases Bn hv k with⟨j,hj,h⟩|h
  ·exact .inl ⟨j,by omega,h⟩
  ·obtain⟨h1,h2⟩:=F4 hv k
   by_cases e:yZ d k=yZ d (k+1)
   ·exact .inl ⟨k,by omega,h2 e⟩
   ·exact .inr (by omega)
theorem Jv {d:bU} (hv:Val d): ∀m,d.next.length≤m→fN d m=fN d d.next.length:=by
 intro m hm
 rcases Bn hv d.next.length with⟨j,hj,h⟩|h
 ·have hs:gu d (fN d j)=fN d j:=by rw[←fN];exact h
  rw[qC hs m (by omega),qC hs d.next.length (by omega)]
 ·have:=Mf d d.next.length;omega
theorem Mg {d:bU} (hv:Val d) {s t:Nat} (hs:s<d.next.length) (ht:t<d.next.length):
  (fN d d.next.length).getD s 0=(fN d d.next.length).getD t 0↔ ∀u,Wd d u→ ¬dst d s t u:=by
 constructor
 ·intro h u hu hd
  have h2:(fN d (max u.length d.next.length)).getD s 0=(fN d (max u.length d.next.length)).getD t 0:=by rw[Jv hv _ (by omega)];exact h
  rw[ns hv _ s t hs ht,←Bool.not_eq_true]at h2
  exact h2 ((rE d _ s t).2 ⟨u,hu,by omega,hd⟩)
 ·intro h
  rw[ns hv _ s t hs ht,←Bool.not_eq_true]
  intro hh
  obtain⟨u,h1,_,h3⟩:=(rE d _ s t).1 hh
  exact h u h1 h3
theorem rF {d:bU} {α:Type} [DecidableEq α] {l:List α} {cs:List Nat} (hl:l.length=d.next.length) (Bp:cs=ul l): ∀k,k≤d.next.length→(gr d cs k).1.length=(dd (l.take k)).length
 |0,_=>by simp[gr,dd]
 |k+1,hk=>by
  have Xi:k<l.length:=by omega
  have ih:=rF hl Bp k (by omega)
  have hg:=List.getElem?_eq_getElem Xi
  have hc:cs.getD k 0=ix l[k] (dd l):=by rw[Bp];exact iM (jy hg)
  have hp:dd (l.take k)<+:dd l:=by
   conv=>rhs;rw[←List.take_append_drop k l]
   rw[sK];exact eL _ _
  rw[gr,ih,hc,List.take_succ_eq_append_getElem Xi]
  by_cases hm:l[k]∈l.take k
  ·rw[jh hm,e_ hp (iz.2 hm),if_pos (pS (iz.2 hm)),ih]
  ·have xe:dd (l.take k)++[l[k]]<+:dd l:=by
    rw[←ji hm,←List.take_succ_eq_append_getElem Xi]
    conv=>rhs;rw[←List.take_append_drop (k+1) l]
    rw[sK];exact eL _ _
   have e:ix l[k] (dd l)=(dd (l.take k)).length:=by
    rw[e_ xe (by simp),ei (fun hh=>hm (iz.1 hh))];simp[ix]
   rw[ji hm,e,if_neg (Nat.lt_irrefl _)]
   simp[ih]
theorem pB {d:bU} (cs:List Nat): ∀k,∀r∈(gr d cs k).1,∃s,s<k∧r=(dP cs (d.next.getD s [])).map fun c:Nat=>(c:Int)
 |0,r,h=>by simp[gr]at h
 |k+1,r,h=>by
  rw[gr]at h
  split at h
  ·obtain⟨s,hs,e⟩:=pB cs k r h;exact⟨s,by omega,e⟩
  ·rcases List.mem_append.1 h with h|h
   ·obtain⟨s,hs,e⟩:=pB cs k r h;exact⟨s,by omega,e⟩
   ·exact⟨k,by omega,List.mem_singleton.1 h⟩
theorem EB {d:bU} {cs:List Nat} (hl:cs.length=d.next.length) (hc:ul cs=cs):(quo d cs).next.length=(dd cs).length:=by
 show(gr d cs d.next.length).1.length=_
 rw[rF (l:=cs) hl hc.symm _ (Nat.le_refl _),List.take_of_length_le (by omega)]
theorem Jw {cs:List Nat} (hc:ul cs=cs) {i c:Nat} (h:cs[i]? =some c):c<(dd cs).length:=by
 have h2:=jy h
 rw[hc,h]at h2
 have:=pS (iz.2 (List.mem_of_getElem? h))
 have e:=Option.some.inj h2
 omega
theorem EC {d:bU} (hv:Val d) {cs:List Nat} (hl:cs.length=d.next.length) (hc:ul cs=cs):Val (quo d cs):=by
 have hq:=EB hl hc
 have eV: ∀i,i<d.next.length→cs.getD i 0<(dd cs).length:=fun i hi=>by
  have ub:i<cs.length:=by omega
  have:=List.getElem?_eq_getElem ub
  rw[iM this];exact Jw hc this
 have h1:=(jn d cs d.next.length)
 refine⟨hv.v0,hv.v6,?_,?_,?_,?_,?_,?_⟩
 ·rw[hq];have:=eV 0 hv.n0;omega
 ·exact h1.1.symm
 ·exact Int.natCast_nonneg _
 ·rw[hq]
  show((cs.getD d.start.toNat 0:Nat):Int)<_
  have:=eV d.start.toNat (by have:=hv.s0;have:=hv.s1;omega)
  omega
 ·intro r hr
  obtain⟨s,hs,rfl⟩:=pB cs _ r hr
  rw[List.length_map,gg]
  simp[hs]
  exact hv.len _ (List.getElem_mem hs)
 ·intro r hr x hx
  rw[hq]
  obtain⟨s,hs,rfl⟩:=pB cs _ r hr
  obtain⟨c,Rg,rfl⟩:=List.mem_map.1 hx
  refine⟨Int.natCast_nonneg _,?_⟩
  obtain⟨to,tx,rfl⟩:=List.mem_map.1 Rg
  simp[hs]at tx
  have:=hv.ok _ (List.getElem_mem hs) to tx
  have:=eV to.toNat (by omega)
  omega
theorem F5 {d:bU} (hv:Valid d) {cs:List Nat} (hl:cs.length=d.next.length) (hc:ul cs=cs):Valid (quo d cs):=
 ⟨EC hv hl hc,by have:=(jn d cs d.next.length).2;have:=hv.n4;show(gr d cs d.next.length).1.length≤_;omega⟩
theorem Mh {d:bU} (hv:Val d) (k:Nat):Val (quo d (fN d k))∧(quo d (fN d k)).next.length≤d.next.length:=
 ⟨EC hv (dX d k) (nu d k),(jn d _ _).2⟩
theorem ED {d:bU} (hv:Valid d) (k:Nat):Valid (quo d (fN d k))∧(quo d (fN d k)).next.length≤d.next.length:=
 ⟨F5 hv (dX d k) (nu d k),(jn d _ _).2⟩
end Go.Lx

namespace Go.Lx
open Go.RowKit
end Go.Lx

namespace Go.Lx
open Go.RowKit
theorem kz {n:Nat}: ∀(l ks:List Nat),ks.Nodup→(∀k∈ks,k<n)→(∀k∈l,k<n)→(l.foldl add ks).Nodup∧ ∀k∈l.foldl add ks,k<n
 | [],ks,h1,h2,_=>⟨h1,h2⟩
 |a::l,ks,h1,h2,h3=>kz l (add ks a) (kT h1) (fun k hk=>(pA.1 hk).elim (h2 k) fun e=>e▸h3 a (by simp)) fun k hk=>h3 k (by simp[hk])
theorem Mz {d:bU} (hv:Val d) {o:Nat} (ho:o<d.next.length): ∀t∈kL d o,t<d.next.length:=fun t ht=>by
 obtain⟨x,hx,rfl⟩:=List.mem_map.1 ht
 exact(hv.fF ho (List.mem_range.1 hx)).1
theorem ua {d:bU} (hv:Val d): ∀i,(b_ d i).Nodup∧ ∀o∈b_ d i,o<d.next.length
 |0=>by
  refine⟨by simp[b_],fun o ho=>?_⟩
  simp only[b_,List.mem_singleton]at ho
  have:=hv.s0;have:=hv.s1;omega
 |i+1=>by
  obtain⟨h1,h2⟩:=ua hv i
  rw[b_]
  split
  ·rename_i hi
   refine kz _ _ h1 h2 (Mz hv (h2 _ ?_))
   rw[List.getD_eq_getElem?_getD,List.getElem?_eq_getElem hi]
   exact List.getElem_mem hi
  ·exact⟨h1,h2⟩
theorem vW {d:bU} (hv:Val d) (i:Nat):(b_ d i).length≤d.next.length:=dE (ua hv i).1 (ua hv i).2
theorem rY {d:bU} {i o:Nat} (h:(b_ d i)[i]? =some o):b_ d (i+1)=(kL d o).foldl add (b_ d i):=by
 have hi:=(List.getElem?_eq_some_iff.1 h).1
 rw[b_,if_pos hi,List.getD_eq_getElem?_getD,h];rfl
def jo (d:bU) (i o x:Nat):List Nat:=((List.range x).map (dY d o)).foldl add (b_ d i)
theorem sS (d:bU) (i o x:Nat):jo d i o (x+1)=add (jo d i o x) (dY d o x):=fw _ _ _
theorem rW {d:bU} (hv:Val d):(order d).length≤d.next.length:=vW hv _
theorem vV {d:bU} (hv:Val d): ∃N,N≤d.next.length∧(b_ d N).length=N∧(∀j,j<N→j<(b_ d j).length):=by
 have step: ∀k,(∃N,N≤k∧(b_ d N).length=N∧ ∀j,j<N→j<(b_ d j).length)∨((∀j,j<k→j<(b_ d j).length)∧k≤(b_ d k).length):=by
  intro k
  induction k with
  |zero=>exact .inr ⟨fun j hj=>absurd hj (by omega),Nat.zero_le _⟩
  |succ k ih=>
   rcases ih with⟨N,h1,h2⟩|⟨h1,h2⟩
   ·exact .inl ⟨N,by omega,h2⟩
   ·by_cases e:(b_ d k).length=k
    ·exact .inl ⟨k,by omega,e,h1⟩
    ·refine .inr ⟨fun j hj=>?_,?_⟩
     ·by_cases ej:j=k
      ·subst ej;omega
      ·exact h1 j (by omega)
     ·have hi:k<(b_ d k).length:=by omega
      rw[rY (List.getElem?_eq_getElem hi)]
      have:=(eL (kL d (b_ d k)[k]) (b_ d k)).length_le
      omega
 rcases step d.next.length with h|⟨h1,h2⟩
 ·exact h
 ·exact⟨d.next.length,Nat.le_refl _,by have:=vW hv d.next.length;omega,h1⟩
theorem gZ (d:bU): ∀(i m:Nat),i≤m→b_ d i<+:b_ d m:=by
 intro i m h
 induction h with
 |refl=>exact List.prefix_refl _
 | @step m _ ih=>
  refine ih.trans ?_
  rw[b_]
  split
  ·exact eL _ _
  ·exact List.prefix_refl _
theorem rG {d:bU} (hv:Val d): ∀o∈order d,∀t∈kL d o,t∈order d:=by
 obtain⟨N,hN,hl,hj⟩:=vV hv
 have e:=nX hl hN
 intro o ho t ht
 rw[e]at ho⊢
 obtain⟨j,VB⟩:=List.getElem?_of_mem ho
 have hjl:=(List.getElem?_eq_some_iff.1 VB).1
 have Kc:=hj j (by omega)
 have hp:=gZ d j N (by omega)
 have XP:(b_ d j)[j]? =some o:=by
  obtain⟨r,hr⟩:=hp
  rw[←hr,List.getElem?_append_left Kc]at VB
  exact VB
 have xe:=gZ d (j+1) N (by omega)
 refine xe.subset ?_
 rw[rY XP]
 exact(dc _ _).2 (.inr ht)
theorem Bs (d:bU) (o:Nat):(kL d o).length=2^d.vars.toNat:=by simp[kL]
theorem vT {d:bU} {o x:Nat} (h:x<2^d.vars.toNat):(kL d o)[x]? =some (dY d o x):=by simp[kL,h]
def pY (d:bU) (o:Nat):List Nat:=(kL d o).map fun t=>ix t (order d)
theorem lZ (d:bU) (o:Nat):(pY d o).length=2^d.vars.toNat:=by simp[pY,kL]
theorem B6 (d:bU):(db d).next=(order d).map fun o=>(pY d o).map fun x:Nat=>(x:Int):=by
 simp[db,pY,Function.comp_def]
end Go.Lx

namespace Go.Lx
end Go.Lx

namespace Go.Lx
open Go.RowKit
theorem eK {P:Program} {base:World} {f:FuncId} {args:List Value} {O:List Item} {R:Value→List Item→Prop} (E:TypeId) (k:Nat) (h:bm P base f args O R):bm P base f args O (fun v O'=> ∃O2,O'=am none 0 E k []::O2∧R v O2):=
 fun w M hI=>(h w M hI).mono fun _ _ ⟨v,O',h1,h2,h3⟩=>⟨v,_,h1,h2.dJ E k,O',F,h3⟩
theorem qJ {P:Program} {base:World} {f:FuncId} {args:List Value} {R:Value→List Item→Prop} (h:bm P base f args [] R):bm P base f args [] (fun v O'=>O'=[]∧ ∃O2,R v O2):=
 fun w M hI=>(h w M hI).mono fun _ _ ⟨v,O',h1,h2,h3⟩=>⟨v,[],h1,by simpa using h2.iN (bn (List.sublist_append_right O' M)),F,O',h3⟩
theorem Kt {α:Type} {p:α→Prop} {a:α} {l:List α} (h1:p a) (h2: ∀q∈l,p q): ∀q∈a::l,p q:=fun q h=>by
 rcases List.mem_cons.1 h with rfl|h
 ·exact h1
 ·exact h2 q h
def gJ (d:bU):bU:=db (quo d (fN d d.next.length))
def zl (d:bU):bU:=if cE d=0 then gJ d else⟨0,0,[],[]⟩
end Go.Lx

namespace Go.Lx
open Go.RowKit Go.Sort
def MZ:List Int:=Lib.deBruijn64tab.map fun n:Nat=>(n:Int)
class cG (P:Program) (base:World):Prop where
 tab: ∀w,Below base.heap.size base w→Lib.TabIs P w "internal/strconv.uint64pow10" .u64 Lib.pow10Tab
 tz:P.globalNamed "math/bits.deBruijn64tab" =none∨ ∀w,Below base.heap.size base w→Lib.TabIs P w "math/bits.deBruijn64tab" .u8 MZ
theorem cG.of {P:Program} {w:World} (h:Lib.TabIs P w "internal/strconv.uint64pow10" .u64 Lib.pow10Tab) (h2:P.globalNamed "math/bits.deBruijn64tab" =none∨Lib.TabIs P w "math/bits.deBruijn64tab" .u8 MZ):cG P w:=⟨fun w' hb=>Lib.tabBelow_of_tabIs h w' hb,h2.imp id fun h w' hb=>Lib.tabBelow_of_tabIs h w' hb⟩
theorem cG.is {P:Program} {w:World} (h:cG P w):Lib.TabIs P w "internal/strconv.uint64pow10" .u64 Lib.pow10Tab:=h.tab w (Below.refl _ _)
theorem Inv.tab {P:Program} {base:World} {O:List Item} {w:World} (hI:Inv base O w) [t:cG P base]:cG P w:=.of (t.tab w hI.below) (t.tz.imp id fun h=>h w hI.below)
theorem Inv.grow {base:World} {O:List Item} {w:World} (h:Inv base O w) (k:Nat) (os:Array Obj):Inv base O (Go.Sort.grow (w.drewN k) os):=by
 refine Inv.new (N:=[]) h F F F ?_ ?_ (by simp) (by simp) (by simp)
 ·show w.heap.size≤(w.heap++os).size
  simp
 ·intro b hb
  show(w.heap++os)[b]? =w.heap[b]?
  rw[Array.getElem?_append_left hb]
theorem bm.drop {P:Program} {base:World} {f:FuncId} {args:List Value} {O:List Item} {R R':Value→List Item→Prop} (h:bm P base f args O R) (hr: ∀v O',R v O'→ ∃wh,Sub wh O'∧R' v wh):bm P base f args O R':=
 fun w M hI=>(h w M hI).mono fun _ _ ⟨v,O',h1,h2,h3⟩=>let⟨wh,hs,h4⟩:=hr v O' h3;⟨v,wh,h1,h2.iN hs.qR,h4⟩
theorem lW {P:Program} {W:World} {x:String×DataW Unit} {rest:List (String×DataW Unit)} {ps:List MemPlace} (h:DataW.LaidVars P W (x::rest) ps): ∃q,DataW.LaidVars P W rest q:=by
 obtain⟨g',t',cs,eX,p,q,YI,Kb,R9,hd,hr,_⟩:=h
 exact⟨q,hr⟩
theorem pL {P:Program} {W:World} {name:String} {k:IntKind} {zs:List Int} {D:DataW Unit} {rest:List (String×DataW Unit)} {ps:List MemPlace} {g:Nat} {t e:TypeId} {n:Nat} (hD:D=Lib.tabData k zs)
  (hg:P.globalNamed name=some g) (hty:(P.globals[g]?).map (·.type)=some t) (ht:P.underlying t=some (.array n e)) (he:P.underlying e=some (.int k)) (Vm:P.cellsOf e=1) (hct:P.cellsOf t=n)
  (h:DataW.LaidVars P W ((name,D)::rest) ps):Lib.TabIs P W name k zs:=by
 subst hD
 obtain⟨g',t',cs,eX,p,q,YI,Kb,R9,hd,_,_⟩:=h
 obtain rfl:=Option.some.inj (hg.symm.trans YI)
 obtain rfl:=Option.some.inj (hty.symm.trans Kb)
 unfold Lib.TabIs
 rw[R9,←Lib.cells_of_tab ht he Vm hct hd]
def Wi (n:Nat) (cs:Array Value):Prop:= ∀j (h:j<(bZ (Lib.decDigits n)).length),cs[j]? =some (bZ (Lib.decDigits n))[j]
theorem KO {P:Program} {f:FuncId} {base:World} {b T n:Nat} {Z:Array Value} (hZ: ∀j,j<24→Z[j]? =some (.int .u8 0)) (R_:1≤n) (hn:n<1000000000000)
  (hc: ∀(jH off cap u:Nat) (d:Array UInt8) (w:World),Holds (fun(b:UInt8)=>Value.int .u8 (b.toNat:Int)) w jH off d→u<10^d.size→u<18446744073709551616→d.size<4611686018427387904→
   Calls P f #[.slice (some ⟨jH,off,none⟩) d.size cap,.int .u64 u] w fun e w'=>e=.returned (.tuple #[])∧ ∃(n v':Nat) (dk:Array UInt8),w'=(putRow (fun(b:UInt8)=>Value.int .u8 (b.toNat:Int)) w jH off dk).drewN n∧Lib.FmtInv d.size u 0 v' dk):
  bm P base f [.slice (some ⟨b,0,none⟩) (Lib.nDigits n) 24,.int .u64 (n:Int)] [cR b (.cells Z T (0,0))] (fun v O'=>v=.tuple #[]∧ ∃cs,O'=[cR b (.cells cs T (0,0))]∧Wi n cs):=by
 intro w M hI
 have hb:w.heap[b]? =some (.cells Z T (0,0)):=hI.holds _ (List.mem_cons_self ..)
 have jO:Lib.nDigits n≤20:=by have:=Lib.numDigits_eq n R_ (by omega);split at this<;>omega
 have hH:Holds (fun(b:UInt8)=>Value.int .u8 (b.toNat:Int)) w b 0 (Array.replicate (Lib.nDigits n) 0):=fun j hj=>by
  have wW:j<Lib.nDigits n:=by simpa using hj
  refine⟨?_,?_⟩
  ·rw[getElem!_pos _ j hj]
   simp[World.cell?,hb,hZ j (by omega)]
  ·simp[World.frozen?,hb]
 have:=hc b 0 24 n (Array.replicate (Lib.nDigits n) 0) w hH (by rw[Array.size_replicate];exact Lib.lt_pow_nDigits n) (by omega) (by rw[Array.size_replicate];omega)
 rw[Array.size_replicate]at this
 refine this.mono ?_
 rintro e w' ⟨rfl,k,v',dk,rfl,hF⟩
 obtain⟨D,hD⟩: ∃D,D=putCells (fun(b:UInt8)=>Value.int .u8 (b.toNat:Int)) 0 dk Z:=⟨_,F⟩
 have Fo:(putRow (fun(b:UInt8)=>Value.int .u8 (b.toNat:Int)) w b 0 dk).heap[b]? =some (.cells D T (0,0)):=by
  show(w.heap.modify b _)[b]? =_
  rw[Array.getElem?_modify,if_pos F,hb,hD];rfl
 have ho: ∀x,x≠b→(putRow (fun(b:UInt8)=>Value.int .u8 (b.toNat:Int)) w b 0 dk).heap[x]? =w.heap[x]? :=fun x hx=>by
  show(w.heap.modify b _)[x]? =_
  rw[Array.getElem?_modify,if_neg (fun e=>hx e.symm)]
 have h1: ∀j,j<dk.size→(putRow (fun(b:UInt8)=>Value.int .u8 (b.toNat:Int)) w b 0 dk).cell? ⟨b,0+j,none⟩=some (.int .u8 (dk[j]!.toNat:Int)):=fun j hj=>cell?_putRow _ w b 0 _ dk hH (by rw[hF.size,Array.size_replicate]) j hj
 have hs:(putRow (fun(b:UInt8)=>Value.int .u8 (b.toNat:Int)) w b 0 dk).heap.size=w.heap.size:=by simp
 have e1:(putRow (fun(b:UInt8)=>Value.int .u8 (b.toNat:Int)) w b 0 dk).os=w.os:=rfl
 have e2:(putRow (fun(b:UInt8)=>Value.int .u8 (b.toNat:Int)) w b 0 dk).tape=w.tape:=rfl
 have e3:(putRow (fun(b:UInt8)=>Value.int .u8 (b.toNat:Int)) w b 0 dk).output=w.output:=rfl
 generalize putRow (fun(b:UInt8)=>Value.int .u8 (b.toNat:Int)) w b 0 dk=w1 at*
 have R5:Inv base ([cR b (.cells D T (0,0))]++M) w1:=by
  refine hI.p6 (i:=0) (it:=cR b (.cells Z T (0,0))) (Oj:=cR b (.cells D T (0,0))) F e1 e2 e3 (by omega) ?_ Fo (fun x hx=>.inl hx) (by simp[cR])
  intro x hx ue
  exact ho x (fun e=>ue (by simp[cR,e]))
 refine⟨_,[cR b (.cells D T (0,0))],F,R5.same F F F F,F,D,F,?_⟩
 ·intro j hj
  have wW:j<(Lib.decDigits n).length:=by simpa[bZ]using hj
  have qj:j<dk.size:=by rw[hF.size];rwa[Lib.decDigits_length]at wW
  have h3:D[j]? =some (.int .u8 (dk[j]!.toNat:Int)):=by have:=h1 j qj;simpa[World.cell?,Fo]using this
  rw[h3,←Lib.row_is_numeral hF j wW]
  simp[bZ]
section
variable {P:Program} {r:Option Nat} {base:World} {n:Nat} {ρ:Env} {O:List Item} {dst:Option Nat} {d:Nat} {t:TypeId} {p:String} {af:Array Edge} {g:Option (Nat×Bool)} {K:Env→List Item→Prop}
theorem zU {T E:TypeId} {x y:Operand} {b m h fy:Nat} {z:Value} (hu:P.underlying T=some (.array m E)) (hi:ey P E z 1 fy) (hx:ev ρ x=.pointer (some ⟨b,0,none⟩)) (hy:ev ρ y=.int .i64 (h:Int)) (hh:h≤m) (h0:1≤h):
  QT P base ⟨dst,.slice T x none (some y) none,t,p,af,g⟩ ρ O (.slice (some ⟨b,0,none⟩) h m):=fun w hI=>by
 have e1:(h:Int)≤(m:Int):=by omega
 have e2:(0:Int)≤(h:Int):=by omega
 simp[execOp,Instr.sliceAt,Instr.sureAddr,hx,hy,aT hu,bi hi,Instr.sliceBounds,Instr.sliceBound,asIntOf,e1,e2,o_,hh]
theorem Fp {T U E A:TypeId} {b:Option Addr} {m c l ca k fy:Nat} {x y:Operand} {z:Value} {cs new:List Value} {arr:Array Value} (i j:Nat)
  (hu:P.underlying T=some (.slice E)) (KJ:P.underlying U=some (.slice E)) (hi:ey P E z 1 fy) (hz:z.cells.size=1)
  (hx:ev ρ x=.slice b m c) (hy:ev ρ y=.slice (some ⟨k,0,none⟩) l ca) (hO:O[j]? =some (am b c E 1 cs)) (hl:cs.length=m) (hs:new.length=l)
  (hA:O[i]? =some (cR k (.cells arr A (0,0)))) (hn': ∀q (h:q<new.length),arr[q]? =some new[q]) (qT:(new.all dS)=true)
  (rZ:(m+l)*fy≤70368744177664) (MS:fy≤1000000) (Fj:0<fy)
  (h: ∀b' c',K (mS ρ d (.slice b' (m+l) c')) (O.set j (am b' c' E 1 (cs++new)))) (hn:Nat.blt d n=true:=by rfl):
  LT P r base n ⟨some d,.call ⟨.builtin .append,#[x,y],#[T,U]⟩,t,p,af,g⟩ ρ O K:=
 gH hn fun w M hI=>by
  have OA:Src P base (O++M) 1 l (.slice (some ⟨k,0,none⟩) l ca) new:=⟨by omega,fun w=>by simp[Builtin.lenOf],fun w hI=>gz (fun q hq=>⟨⟨k,0,none⟩,F,F,by
   have hb:w.heap[k]? =some (.cells arr A (0,0)):=hI.holds _ (List.mem_of_getElem? (kX hA))
   simp[World.cell?,hb,hn' q hq]⟩) (by omega) (fun e=>by cases e)⟩
  obtain⟨b',c',w',hr,l6⟩:=qe (ty:=t) hu KJ (.inl ⟨_,F⟩) hi hz (kX hO) (by simpa using hl) (by decide) OA qT rZ MS Fj hI
  rw[mW hO]at l6
  refine⟨_,w',_,?_,l6,h b' c'⟩
  simp[execOp,resolve,hx,hy,invoke,builtin,hr]
end
end Go.Lx

namespace Go.Lx
open Go.RowKit
section
variable {P:Program} {r:Option Nat} {base:World} {n:Nat} {ρ:Env} {O:List Item} {K':Env→List Item→Prop} {d:Nat} {t:TypeId} {p:String} {af:Array Edge} {g:Option (Nat×Bool)}
end
end Go.Lx

namespace Go.Lx
open Go.RowKit
section
variable {P:Program} {base:World} {ρ:Env} {O:List Item} {dst:Option Nat} {t:TypeId} {p:String} {af:Array Edge} {g:Option (Nat×Bool)}
theorem lF {x:Nat} (h:x<2^64):IntKind.u64.wrap (x:Int)=(x:Int):=by
 simp only[IntKind.wrap,IntKind.signed,IntKind.bits]
 simp
 omega
inductive UK:IntKind→Prop
 |u8:UK .u8
 |u64:UK .u64
theorem UK.wrap {k:IntKind} (hk:UK k) {x:Nat} (h:x<2^k.bits):k.wrap (x:Int)=(x:Int):=by
 cases hk
 ·exact ny (by simpa[IntKind.bits]using h)
 ·exact lF (by simpa[IntKind.bits]using h)
theorem OF {x y:Operand} {T U:TypeId} {k:IntKind} {a b:Nat} (hk:UK k) (hx:ev ρ x=.int k (a:Int)) (hy:ev ρ y=.int k (b:Int)) (ha:a<2^k.bits) (hb:b<2^k.bits):QT P base ⟨dst,.binOp .or T x y U,t,p,af,g⟩ ρ O (.int k ((a|||b:Nat):Int)):=fun w _=>by
 have:=hk.wrap (Nat.or_lt_two_pow ha hb)
 simp[execOp,hx,hy,eqGuard,binOp,Op.intBits,Nat.mod_eq_of_lt ha,Nat.mod_eq_of_lt hb,this]
theorem Dz {x y:Operand} {T U:TypeId} {k:IntKind} {a b:Nat} (hk:UK k) (hx:ev ρ x=.int k (a:Int)) (hy:ev ρ y=.int k (b:Int)) (ha:a<2^k.bits) (hb:b<2^k.bits):QT P base ⟨dst,.binOp .and T x y U,t,p,af,g⟩ ρ O (.int k ((a&&&b:Nat):Int)):=fun w _=>by
 have:=hk.wrap (Nat.lt_of_le_of_lt (Nat.and_le_left (n:=a) (m:=b)) ha)
 simp[execOp,hx,hy,eqGuard,binOp,Op.intBits,Nat.mod_eq_of_lt ha,Nat.mod_eq_of_lt hb,this]
theorem OG {x y:Operand} {T U:TypeId} {k k':IntKind} {a b:Nat} (hk:UK k) (hx:ev ρ x=.int k (a:Int)) (hy:ev ρ y=.int k' (b:Int)) (hb:b≤k.bits) (h:a*2^b<2^k.bits):QT P base ⟨dst,.binOp .shl T x y U,t,p,af,g⟩ ρ O (.int k ((a*2^b:Nat):Int)):=fun w _=>by
 have h0: ¬(b:Int)<0:=by omega
 have h1:min (b:Int).toNat k.bits=b:=by rw[Int.toNat_natCast];exact Nat.min_eq_left hb
 have h2:k.wrap ((a:Int)*2^b)=((a*2^b:Nat):Int):=by
  have:=hk.wrap h
  rw[←this];congr 1
 simp only[execOp,hx,hy,eqGuard,binOp,Op.shift,h0,if_false,h1,h2]
 simp
theorem Hf {x y:Operand} {T U:TypeId} {k:IntKind} {a b:Nat} (hk:UK k) (hx:ev ρ x=.int k (a:Int)) (hy:ev ρ y=.int k (b:Int)) (ha:a<2^k.bits) (hb:b≤a):QT P base ⟨dst,.binOp .sub T x y U,t,p,af,g⟩ ρ O (.int k ((a-b:Nat):Int)):=by
 have h:=MU (P:=P) (base:=base) (O:=O) (dst:=dst) (t:=t) (p:=p) (af:=af) (g:=g) (T:=T) (U:=U) hx hy
 rw[←Int.natCast_sub hb,hk.wrap (by omega)]at h
 exact h
theorem cx {x y:Operand} {T U:TypeId} {a b:Nat} (hx:ev ρ x=.int .i64 (a:Int)) (hy:ev ρ y=.int .i64 (b:Int)) (h:a+b≤9223372036854775807):QT P base ⟨dst,.binOp .add T x y U,t,p,af,g⟩ ρ O (.int .i64 ((a+b:Nat):Int)):=by
 have:=cL (P:=P) (base:=base) (O:=O) (dst:=dst) (t:=t) (p:=p) (af:=af) (g:=g) (T:=T) (U:=U) hx hy (by omega)
 rwa[←Int.natCast_add]at this
theorem qh {x y:Operand} {T U:TypeId} {a b:Nat} (hx:ev ρ x=.int .i64 (a:Int)) (hy:ev ρ y=.int .i64 (b:Int)) (h:b≤a) (ha:a≤9223372036854775807):QT P base ⟨dst,.binOp .sub T x y U,t,p,af,g⟩ ρ O (.int .i64 ((a-b:Nat):Int)):=by
 have:=ez (P:=P) (base:=base) (O:=O) (dst:=dst) (t:=t) (p:=p) (af:=af) (g:=g) (T:=T) (U:=U) hx hy (by omega)
 rwa[←Int.natCast_sub h]at this
def zS (b:Option Addr) (c lo k:Nat):Option Addr:=if c=lo then b else b.map (·.add (lo*k))
theorem Fl (b:Option Addr) (c k:Nat):zS b c 0 k=b:=by
 unfold zS
 split
 ·rfl
 ·rw[Nat.zero_mul];cases b with
  |none=>rfl
  |some a=>simp[Addr.add]
theorem DA {x:Operand} {T E:TypeId} {b:Option Addr} {n c k fy lo hi:Nat} {z:Value} {yl yh:Option Operand} {kl kh:IntKind} (hu:P.underlying T=some (.slice E)) (ub:ey P E z k fy) (hx:ev ρ x=.slice b n c)
  (hl: ∀y,yl=some y→ev ρ y=.int kl (lo:Int)) (Fk:yl=none→lo=0) (hh: ∀y,yh=some y→ev ρ y=.int kh (hi:Int)) (YG:yh=none→hi=n) (h1:lo≤hi) (h2:hi≤c):
  QT P base ⟨dst,.slice T x yl yh none,t,p,af,g⟩ ρ O (.slice (zS b c lo k) (hi-lo) (c-lo)):=fun w _=>by
 have e1:(lo:Int)≤(hi:Int):=by omega
 have e2:(hi:Int)≤(c:Int):=by omega
 have e0:(0:Int)≤(lo:Int):=by omega
 have e3:(0:Int)≤(hi:Int):=by omega
 unfold zS
 have ed:c-lo=0↔c=lo:=by omega
 cases yl with
 |none=>
  obtain rfl:=Fk F
  cases yh with
  |none=>
   obtain rfl:=YG F
   by_cases wQ:c=0
   ·simp[execOp,Instr.sliceAt,Instr.slice,hx,aT hu,bi ub,Instr.sliceBounds,wQ]
   ·simp[execOp,Instr.sliceAt,Instr.slice,hx,aT hu,bi ub,Instr.sliceBounds,wQ]
  |some y=>
   have:=hh y F
   by_cases wQ:c=0
   ·simp[execOp,Instr.sliceAt,Instr.slice,hx,this,aT hu,bi ub,Instr.sliceBounds,Instr.sliceBound,asIntOf,e2,e3,wQ,h2]
    omega
   ·simp[execOp,Instr.sliceAt,Instr.slice,hx,this,aT hu,bi ub,Instr.sliceBounds,Instr.sliceBound,asIntOf,e2,e3,wQ,h2]
 |some y'=>
  have Vl:=hl y' F
  cases yh with
  |none=>
   obtain rfl:=YG F
   by_cases wQ:c=lo
   ·simp[execOp,Instr.sliceAt,Instr.slice,hx,Vl,aT hu,bi ub,Instr.sliceBounds,Instr.sliceBound,asIntOf,e1,e0,wQ,h1]
   ·simp[execOp,Instr.sliceAt,Instr.slice,hx,Vl,aT hu,bi ub,Instr.sliceBounds,Instr.sliceBound,asIntOf,e1,e0,wQ,h1]
  |some y=>
   have:=hh y F
   by_cases wQ:c=lo
   ·simp[execOp,Instr.sliceAt,Instr.slice,hx,Vl,this,aT hu,bi ub,Instr.sliceBounds,Instr.sliceBound,asIntOf,e1,e0,e2,e3,wQ,h1,h2]
    intro;omega
   ·simp[execOp,Instr.sliceAt,Instr.slice,hx,Vl,this,aT hu,bi ub,Instr.sliceBounds,Instr.sliceBound,asIntOf,e1,e0,e2,e3,wQ,h1,h2]
theorem Fm {x y:Operand} {T E:TypeId} {b:Option Addr} {n c k fy hi:Nat} {z:Value} {kh:IntKind} (hu:P.underlying T=some (.slice E)) (ub:ey P E z k fy) (hx:ev ρ x=.slice b n c) (hh:ev ρ y=.int kh (hi:Int)) (h2:hi≤c):
  QT P base ⟨dst,.slice T x none (some y) none,t,p,af,g⟩ ρ O (.slice b hi c):=by
 have:=DA (P:=P) (base:=base) (O:=O) (dst:=dst) (t:=t) (p:=p) (af:=af) (g:=g) (lo:=0) (kl:=.i64) hu ub hx (yl:=none) (yh:=some y) (fun _ h=>by cases h) (fun _=>rfl) (fun _ h=>by cases h;exact hh) (fun h=>by cases h) (Nat.zero_le _) h2
 rwa[Fl,Nat.sub_zero,Nat.sub_zero]at this
theorem zT {x y:Operand} {T E:TypeId} {b:Option Addr} {n c k fy lo:Nat} {z:Value} {kl:IntKind} (hu:P.underlying T=some (.slice E)) (ub:ey P E z k fy) (hx:ev ρ x=.slice b n c) (hh:ev ρ y=.int kl (lo:Int)) (h1:lo≤n) (h2:n≤c):
  QT P base ⟨dst,.slice T x (some y) none none,t,p,af,g⟩ ρ O (.slice (zS b c lo k) (n-lo) (c-lo)):=
 DA (kh:=.i64) hu ub hx (fun _ h=>by cases h;exact hh) (fun h=>by cases h) (fun _ h=>by cases h) (fun _=>rfl) h1 h2
end
section
variable {P:Program} {r:Option Nat} {base:World} {n:Nat} {ρ:Env} {O:List Item} {K:Env→List Item→Prop} {d:Nat} {t:TypeId} {p:String} {af:Array Edge} {g:Option (Nat×Bool)}
end
theorem cM {P:Program} {r:Option Nat} {base:World} {n:Nat} {Q:jk} {ρ:Env} {O:List Item} {c:Code} {α:Type} (I:α→Env→List Item→Prop) (μ:α→Nat) (s:α) (h0:I s ρ O)
  (h: ∀s ρ O,I s ρ O→T P r base n c (GZ (fun fB O'=> ∃s',μ s'<μ s∧ ∃O2,Sub O2 O'∧I s' fB O2) Q) ρ O):T P r base n (.loop c) Q ρ O:=
 dm (fun s ρ O=> ∃O2,Sub O2 O∧I s ρ O2) μ s ⟨O,bn (List.Sublist.refl _),h0⟩ (fun s ρ O ⟨O2,hs,hi⟩=>ck hs (h s ρ O2 hi))
theorem x8 {P:Program} {T E:TypeId} {d:TypeDesc} {b:Nat} {v:Value} {cs:List Value} {fr:Nat×Nat} {w:World} (hu:P.underlying T=some d) (ha:mV d=false) (hw:w.heap[b]? =some (.cells (v::cs).toArray E fr)):
  (loadVar T ⟨b,0,none⟩).run P w=.ok v w:=by
 have hc:w.cell? ⟨b,0,none⟩=some v:=by unfold World.cell?;simp[hw]
 simp[loadVar,gK hu,ha,hc]
section
variable {P:Program} {base:World} {ρ:Env} {O:List Item} {dst:Option Nat} {t:TypeId} {p:String} {af:Array Edge} {g:Option (Nat×Bool)}
end
end Go.Lx

namespace Go.Lx
open Go.RowKit
section
variable {P:Program} {r:Option Nat} {base:World} {n:Nat} {ρ:Env} {O:List Item} {K:Env→List Item→Prop} {d:Nat} {t:TypeId} {p:String} {af:Array Edge} {g:Option (Nat×Bool)}
end
end Go.Lx

namespace Go.Lx
open Go.RowKit
theorem DB {P:Program} {base:World} {ρ:Env} {O:List Item} {dst:Option Nat} {t:TypeId} {p:String} {af:Array Edge} {g:Option (Nat×Bool)} {x:Operand} {S:TypeId} {fs:Array Field} {i:Nat} {f:Field} {cs:List Value} {d:TypeDesc} {v:Value} (hu:P.underlying S=some (.struct fs)) (hf:fs[i]? =some f) (hd:P.underlying f.type=some d) (ha:mV d=false) (hx:ev ρ x=.agg cs.toArray) (hv:cs[f.offset]? =some v):
  QT P base ⟨dst,.field S x i,t,p,af,g⟩ ρ O v:=fun w _=>by
 simp[execOp,hx,Instr.field,aT hu,hf,part,gK hd,ha,asAgg,hv]
section
variable {X:PX} {P:Program} {r:Option Nat} {base:World} {n:Nat} {ops:Array Oper} {S S2:List Item} {tail cn:List Nat} {K:Env→List Item→Prop} {ρ:Env} {O:List Item}
theorem Ce {eX:Nat} {listed:Array Bool} (i:Nat) {o:Oper} {j0 tj:Nat} {want:Bool} (hi:ops[i]? =some o) (hg:o.guard=some (j0,want)) (OH:(ops[j0]?).bind (·.dst)=some tj) (hw:ρ tj=.bool want) (hr:Region.ready .any ops listed=[i])
  (h:LT P r base n o ρ O (fun fB O'=>(i∈tail∨Sub S O')∧(i∈cn∨Sub S2 O')∧RO X P r base n ops S tail S2 cn eX (listed.setIfInBounds i true) K fB O')):RO X P r base n ops S tail S2 cn (eX+1) listed K ρ O:=by
 intro Q a w M D hq hp ha hI l_ hS
 refine⟨fun h0=>(by rw[hr]at h0;cases h0),fun j hj=>?_⟩
 rw[hr]at hj
 obtain rfl:j=i:=by simpa using hj
 have wW:j∈Region.ready .any ops listed:=by rw[hr];simp
 have eV:j<listed.size:=by
  have:=(mem_ready.1 wW).1
  rcases Nat.lt_or_ge j listed.size with h'|h'
  ·exact h'
  ·simp[Array.getElem?_eq_none h']at this
 have hy:=g_ (ops:=ops) ha OH
 rw[hw]at hy
 have nZ:Region.wanted o (yielded ops a.tmps)=true:=by unfold Region.wanted;rw[hg];simp[hy,J_]
 unfold wpOpIn
 simp only[hi]
 rw[if_pos nZ]
 refine h a w _ _ ha hI _ _ fun a' fB O' w' h1 h2 h3=>?_
 have pJ: ∀(tl:List Nat) (Z:List Item),(j∈tl∨Sub Z O')→(tl.any fun b=>(listed.setIfInBounds j true).getD b false)=true∨Inv base Z w':=fun tl Z h3=>by
  rcases h3 with h4|h4
  ·refine .inl (List.any_eq_true.2 ⟨j,h4,?_⟩)
   simp[eV]
  ·exact .inr (h2.left.iN h4)
 have n6:gw base S tail S2 cn (listed.setIfInBounds j true) w':=⟨h2.kw,pJ _ _ h3.1,pJ _ _ h3.2.1⟩
 exact⟨n6,h3.2.2 Q a' w' M D hq hp h1 h2 (gG l_ wW) n6⟩
theorem qi {l:List (Nat×Nat)} {i:Nat} {o:Oper} {j0 tj:Nat} {want:Bool} (hi:ops[i]? =some o) (hg:o.guard=some (j0,want)) (OH:(ops[j0]?).bind (·.dst)=some tj) (hw:ρ tj=.bool want)
  (h:LT P r base n o ρ O (fun fB O'=>DO X P r base n ops S tail S2 cn l K fB O')):DO X P r base n ops S tail S2 cn ((i,2)::l) K ρ O:=fun hs jO hl listed hb=>by
 simp only[h_,Bool.and_eq_true,beq_iff_eq]at hb
 refine Ce i hi hg OH hw hb.1 ?_
 intro a w M ds ha hI next Qx dT
 exact h a w M ds ha hI next Qx fun a' fB O' w' h1 h2 h3=>dT a' fB O' w' h1 h2 ⟨.inl ((hl (i,2) (by simp)).1.1 F),.inl ((hl (i,2) (by simp)).2.1 (.inl F)),h3 hs jO (fun q hq=>hl q (List.mem_cons_of_mem _ hq)) _ hb.2⟩
end
end Go.Lx

namespace Go.Lx
open Go.RowKit
section
variable {X:PX} {P:Program} {r:Option Nat} {base:World} {n:Nat} {ops:Array Oper} {S S2:List Item} {tail cn:List Nat} {K:Env→List Item→Prop} {ρ:Env} {O:List Item}
theorem x9 {eX:Nat} {listed:Array Bool} (i:Nat) {o:Oper} {d j0 tj:Nat} {want:Bool} (hi:ops[i]? =some o) (hg:o.guard=some (j0,want)) (hd:o.dst=some d) (OH:(ops[j0]?).bind (·.dst)=some tj) (hw:(J_ (ρ tj)==some want)=false) (hn:Nat.blt d n=true) (hr:Region.ready .any ops listed=[i])
  (h:RO X P r base n ops S tail S2 cn eX (listed.setIfInBounds i true) K (mS ρ d undef) O):RO X P r base n ops S tail S2 cn (eX+1) listed K ρ O:=by
 intro Q a w M D hq hp ha hI l_ hS
 refine⟨fun h0=>(by rw[hr]at h0;cases h0),fun j hj=>?_⟩
 rw[hr]at hj
 obtain rfl:j=i:=by simpa using hj
 have wW:j∈Region.ready .any ops listed:=by rw[hr];simp
 have hy:=g_ (ops:=ops) ha OH
 have nZ:Region.wanted o (yielded ops a.tmps)=false:=by unfold Region.wanted;rw[hg];simp only[hy];exact hw
 unfold wpOpIn
 simp only[hi]
 rw[if_neg (by rw[nZ];decide)]
 have n6:gw base S tail S2 cn (listed.setIfInBounds j true) w:=⟨hS.kw,hS.one.imp x6 id,hS.two.imp x6 id⟩
 refine⟨fun _ _=>trivial,n6,?_⟩
 rw[hd]
 exact h Q _ w M D hq hp (ha.put hn undef) hI (gG l_ wW) n6
theorem x_ {l:List (Nat×Nat)} {i mo:Nat} {o:Oper} {d j0 tj:Nat} {want:Bool} (hmo:mo=1∨mo=2) (hi:ops[i]? =some o) (hg:o.guard=some (j0,want)) (hd:o.dst=some d) (OH:(ops[j0]?).bind (·.dst)=some tj) (hw:(J_ (ρ tj)==some want)=false)
  (h:DO X P r base n ops S tail S2 cn l K (mS ρ d undef) O) (hn:Nat.blt d n=true:=by rfl):DO X P r base n ops S tail S2 cn ((i,mo)::l) K ρ O:=fun hs jO hl listed hb=>by
 have BL:(Region.ready .any ops listed== [i])=true∧h_ ops tail cn l (listed.setIfInBounds i true)=true:=by
  rcases hmo with rfl|rfl<;>simpa only[h_,Bool.and_eq_true]using hb
 exact x9 i hi hg hd OH hw hn (by simpa using BL.1) (h hs jO (fun q hq=>hl q (List.mem_cons_of_mem _ hq)) _ BL.2)
end
theorem Sub.k {A B:List Item} {a:Item} (h:Sub A B):Sub (a::A) (a::B):=by
 obtain⟨l,h1,h2⟩:=h;exact⟨a::l,h1.cons a,.cons_cons a h2⟩
theorem Sub.d {A B:List Item} {a:Item} (h:Sub A B):Sub A (a::B):=by
 obtain⟨l,h1,h2⟩:=h;exact⟨l,h1,.cons a h2⟩
theorem Sub.z {B:List Item}:Sub [] B:=bn (List.nil_sublist _)
theorem Sub.rf {B:List Item}:Sub B B:=bn (List.Sublist.refl _)
theorem eW (A B S:List Item):Sub ((A++B)++S) ((A++S)++B):=by
 refine⟨(A++S)++B,?_,List.Sublist.refl _⟩
 rw[List.append_assoc,List.append_assoc]
 exact List.Perm.append_left A List.perm_append_comm
theorem eg (A B S R:List Item):Sub ((A++B)++(S++R)) ((A++S)++(B++R)):=by
 refine⟨(A++S)++(B++R),?_,List.Sublist.refl _⟩
 have h:(B++(S++R)).Perm (S++(B++R)):=by
  rw[←List.append_assoc,←List.append_assoc]
  exact List.perm_append_comm.append_right R
 rw[List.append_assoc,List.append_assoc]
 exact List.Perm.append_left A h
theorem Hg {l B:List Item} (h:l.Sublist B): ∃D,(l++D).Perm B:=by
 induction h with
 |slnil=>exact⟨[],List.Perm.refl _⟩
 |cons a _ ih=>obtain⟨D,hD⟩:=ih;exact⟨a::D,List.perm_middle.trans (hD.cons a)⟩
 |cons_cons a _ ih=>obtain⟨D,hD⟩:=ih;exact⟨D,hD.cons a⟩
theorem Sub.perm {A B:List Item} (h:Sub A B): ∃D,(A++D).Perm B:=by
 obtain⟨l,p,s⟩:=h
 obtain⟨D,hD⟩:=Hg s
 exact⟨D,(p.append_right D).trans hD⟩
end Go.Lx

namespace Go.Lx
open Go.RowKit
theorem Sub.dr {xs:List Item} {x:Item} (P Q:List Item) (h:Sub xs (P++Q)):Sub (x::xs) (P++x::Q):=by
 obtain⟨D,p⟩:=h.perm
 refine lU (D:=D) ?_
 exact(p.cons x).trans List.perm_middle.symm
example (a b c d e:Item) (R:List Item):Sub ([c,a,e]++R) ([a,b,c,d,e]++R):=by exact Sub.dr [a,b] _ (.k (.d (.d (.k .rf))))
end Go.Lx

namespace Go.Lx
open Go.RowKit
theorem k8 {A B:List Item} (N:List Item) (h:Sub A B):Sub A (N++B):=by
 obtain⟨l,hp,hs⟩:=h
 exact⟨l,hp,hs.trans (List.sublist_append_right _ _)⟩
end Go.Lx

namespace Go.Lx
open Go.RowKit
theorem ga {P:Program} {base:World} {ρ:Env} {O:List Item} {fn:Func} {R:Value→List Item→Prop} {a i c j:Nat} {T U E E':TypeId} {d d':TypeDesc} {z u:Value} {s fy b b':Nat} {cs x5:List Value} {fr fr':Nat×Nat} (hr:fn.results= #[.cell a T,.cell c U]) (hu:P.underlying T=some d) (ha:mV d=true) (hi:ey P T z s fy) (GB:P.underlying U=some d') (ha':mV d'=false)
  (hp:ρ a=.pointer (some ⟨b,0,none⟩)) (Rj:ρ c=.pointer (some ⟨b',0,none⟩)) (hO:O[i]? =some (cR b (.cells cs.toArray E fr))) (hO':O[j]? =some (cR b' (.cells (u::x5).toArray E' fr'))) (hl:cs.length=s)
  (h:R (.tuple #[.agg cs.toArray,u]) O):pD P base fn ρ O R:=
 ⟨⟨_,O,bn (List.Sublist.refl _),h,fun w tmps hI ht=>by
  have h1:=n8 (P:=P) hu ha hi hl (hI.s4 hO)
  have h2:=x8 (P:=P) GB ha' (hI.s4 hO')
  have YH:=ht a
  have Rk:=ht c
  simp only[Array.getD_eq_getD_getElem?]at YH Rk
  simp[results,hr,YH,Rk,hp,Rj,asAddr,h1,h2]⟩⟩
theorem aK {P:Program} {base:World} {ρ:Env} {O:List Item} {dst:Option Nat} {t:TypeId} {p:String} {af:Array Edge} {g:Option (Nat×Bool)} {x:Operand} {a:Addr} (h:ev ρ x=.pointer (some a)):QT P base ⟨dst,.nilCheck x,t,p,af,g⟩ ρ O (.pointer (some a)):=fun w _=>by simp[execOp,h]
end Go.Lx

namespace Go.Lx
open Go.RowKit
section
variable {P:Program} {base:World} {ρ:Env} {O:List Item} {dst:Option Nat} {t:TypeId} {p:String} {af:Array Edge} {g:Option (Nat×Bool)}
theorem qW {T E:TypeId} {n:Nat} {parts:List (Nat×Operand)} {z ze:Value} {s fy sz bz:Nat} {cs:List Value} (hu:P.underlying T=some (.array n E)) (he:ey P E ze s fy) (hi:ey P T z sz bz) (hf:Instr.fill (fun i=>some (i*s,s)) z.cells (parts.map fun q=>(q.1,ev ρ q.2))=some cs.toArray):
  QT P base ⟨dst,.build T parts.toArray,t,p,af,g⟩ ρ O (.agg cs.toArray):=fun w _=>by
 simp only[execOp,Instr.build,Sem.run_bind,fq hi,Result.andThen_ok,aT hu,bi he]
 simp[hf]
end
def M0 (P:Program) (r:Option Nat) (base:World) (n:Nat) (c:Code) (Q:jk):Nat→Env→List Item→Prop
 |0,_,_=>False
 |m+1,ρ,O=>T P r base n c (GZ (M0 P r base n c Q m) Q) ρ O
theorem mZ {P:Program} {r:Option Nat} {base:World} {n:Nat} {c:Code} {Q:jk} {ρ:Env} {O:List Item} (m:Nat) (h:M0 P r base n c Q m ρ O):T P r base n (.loop c) Q ρ O:=
 dm (M0 P r base n c Q) (fun m=>m) m h fun s ρ O h=>by
  cases s with
  |zero=>exact h.elim
  |succ s=>exact T.mono (show T P r base n c (GZ (M0 P r base n c Q s) Q) ρ O from h) (fun e ρ O h=>by cases e<;>first|exact⟨s,Nat.lt_succ_self s,h⟩|exact h)
theorem T.round {P:Program} {r:Option Nat} {base:World} {n m:Nat} {c:Code} {Q:jk} {ρ:Env} {O:List Item} (h:T P r base n c (GZ (M0 P r base n c Q m) Q) ρ O):M0 P r base n c Q (m+1) ρ O:=h
end Go.Lx

namespace Go.Lx
open Go.RowKit
structure Mk (Wt:Type) where
 i:Nat
 d:Nat
 val:Wt→Value
 ik:Wt→List Item
section
variable {X:PX} {P:Program} {r:Option Nat} {base:World} {n:Nat} {ρ:Env} {O S:List Item} {tail:List Nat} {ops:Array Oper} {K:Env→List Item→Prop} {Wt:Type}
theorem Sub.trans {A B C:List Item} (h:Sub A B) (h2:Sub B C):Sub A C:=by
 obtain⟨l1,p1,s1⟩:=h
 obtain⟨l2,p2,s2⟩:=h2
 obtain⟨l3,p3,s3⟩:=List.exists_perm_sublist s1 p2
 exact⟨l3,p1.trans p3.symm,s3.trans s2⟩
theorem getD_lt {l:Array Bool} {j:Nat} (h:j<l.size) (a b:Bool):l.getD j a=l.getD j b:=by simp[h]
def left (listed:Array Bool) (mk:List (Mk Wt)):Nat:=(mk.filter fun q=>!listed.getD q.i false).length
end
end Go.Lx

namespace Go.Lx
open Go.RowKit
def qX (φ:Prop) (L:List Item):Item where
 blocks:=L.flatMap Item.blocks
 P w:=φ∧ ∀it∈L,it.P w
 loc w w' h:=fun hp=>⟨hp.1,fun it hi=>it.loc w w' (fun b hb=>h b (List.mem_flatMap.2 ⟨it,hi,hb⟩)) (hp.2 it hi)⟩
theorem uU {base w:World} {φ:Prop} {L M:List Item} (Sb:φ) (h:Inv base (L++M) w):Inv base (qX φ L::M) w:=
 ⟨h.below,fun it hi=>(List.mem_cons.1 hi).elim (fun e=>e▸⟨Sb,fun x hx=>h.holds x (List.mem_append_left _ hx)⟩) fun hm=>h.holds it (List.mem_append_right _ hm),
  fun it hi b hb=>(List.mem_cons.1 hi).elim (fun e=>by
   subst e
   obtain⟨x,hx,hbx⟩:=List.mem_flatMap.1 hb
   exact h.fresh x (List.mem_append_left _ hx) b hbx) fun hm=>h.fresh it (List.mem_append_right _ hm) b hb,
  by have:=h.nodup;rwa[List.flatMap_append]at this⟩
theorem ye {base w:World} {φ:Prop} {L M:List Item} (h:Inv base (qX φ L::M) w):φ∧Inv base (L++M) w:=by
 have h0:=h.holds (qX φ L) List.mem_cons_self
 refine⟨h0.1,h.below,fun it hi=>(List.mem_append.1 hi).elim (h0.2 it) fun hm=>h.holds it (List.mem_cons_of_mem _ hm),fun it hi b hb=>(List.mem_append.1 hi).elim (fun hm=>h.fresh (qX φ L) List.mem_cons_self b (List.mem_flatMap.2 ⟨it,hm,hb⟩)) fun hm=>h.fresh it (List.mem_cons_of_mem _ hm) b hb,?_⟩
 have:=h.nodup
 rwa[List.flatMap_append]
section
variable {P:Program} {r:Option Nat} {base:World} {n:Nat} {c:Code} {Q:jk} {ρ:Env} {φ:Prop} {L M:List Item} {f:FuncId} {args:List Value}
theorem ol (Sb:φ) (h:T P r base n c Q ρ (qX φ L::M)):T P r base n c Q ρ (L++M):=fun a w N D hM ha hi=>
 h a w N D hM ha (by rw[List.append_assoc]at hi;exact uU Sb hi)
theorem Cg (h:φ→T P r base n c Q ρ (L++M)):T P r base n c Q ρ (qX φ L::M):=fun a w N D hM ha hi=>by
 have hu:=ye (M:=M++(mI D++N)) hi
 exact h hu.1 a w N D hM ha (by rw[List.append_assoc];exact hu.2)
theorem bm.MI {O:List Item} {R R':Value→List Item→Prop} (h:bm P base f args O R) (hr: ∀v O',R v O'→ ∃φ L M,φ∧O'=L++M∧R' v (qX φ L::M)):bm P base f args O R':=fun w N hI=>
 (h w N hI).mono fun _ _ ⟨v,O',h1,h2,h3⟩=>by
  obtain⟨φ,L,M,Sb,rfl,hR⟩:=hr v O' h3
  exact⟨v,qX φ L::M,h1,uU (M:=M++N) Sb (by rw[←List.append_assoc];exact h2),hR⟩
end
structure DK where
 nb:Option Addr
 nc:Nat
 fb:Option Addr
 fc:Nat
 qs:List Rec
abbrev dC (d:bU) (k:DK):List Value:=dB d k.nb k.nc k.fb k.fc
abbrev dV (d:bU) (k:DK):Value:=.agg (dC d k).toArray
abbrev At (w:World) (d:bU) (k:DK):Prop:=fZ w d k.nb (bO k.qs) k.fb
def dI (II Bo I:TypeId) (d:bU) (k:DK):Item:=qX (nums k.qs=d.next) ([am k.nb k.nc II 1 (bO k.qs),am k.fb k.fc Bo 1 (bf d.ax)]++a_ I k.qs)
theorem Inv.at {base w:World} {O:List Item} {II Bo I:TypeId} {d:bU} {k:DK} (hI:Inv base O w) (h:dI II Bo I d k∈O):At w d k:=by
 have h0:=hI.holds _ h
 have g: ∀it∈[am k.nb k.nc II 1 (bO k.qs),am k.fb k.fc Bo 1 (bf d.ax)]++a_ I k.qs,it.P w:=h0.2
 refine⟨rowP.sl (g (am k.nb k.nc II 1 (bO k.qs)) (by simp)),?_,rowP.sl (g (am k.fb k.fc Bo 1 (bf d.ax)) (by simp))⟩
 rw[←h0.1]
 refine⟨by simp,fun i x hx=>?_⟩
 rw[List.getElem?_map]at hx
 obtain⟨q,hq,rfl⟩:=Option.map_eq_some_iff.1 hx
 refine⟨q.b,q.c,by rw[List.getElem?_map,hq];rfl,?_⟩
 have:(Rec.qG I q).P w:=g _ (List.mem_append_right _ (List.mem_map_of_mem (List.mem_of_getElem? hq)))
 exact rowP.sl this
theorem bm.dk {P:Program} {base:World} {f:FuncId} {args:List Value} {O:List Item} {II Bo I:TypeId} {D:bU} {g:Value→Value} (h:bm P base f args O fun v N=> ∃zX zY mK mL qs,v=g (.agg (dB D zX zY mK mL).toArray)∧N=[am zX zY II 1 (bO qs),am mK mL Bo 1 (bf D.ax)]++a_ I qs∧nums qs=D.next):
  bm P base f args O fun v N=> ∃k:DK,v=g (dV D k)∧N=[dI II Bo I D k]:=
 h.MI fun v O' hR=>by
  obtain⟨nb,nc,fb,fc,qs,rfl,rfl,hq⟩:=hR
  exact⟨nums qs=D.next,_,[],hq,(List.append_nil _).symm,⟨nb,nc,fb,fc,qs⟩,F,F⟩
theorem Inv.nN {base w:World} {O:List Item} {d:bU} {k:DK} (hI:Inv base O w) (h:At base d k):At w d k:=hI.zP h
end Go.Lx

namespace Go.Lx
open Go.RowKit
section
variable {P:Program} {base:World} {ρ:Env} {O:List Item} {dst:Option Nat} {t:TypeId} {p:String} {af:Array Edge} {g:Option (Nat×Bool)}
theorem gT {x y:Operand} {T E:TypeId} {b o n i:Nat} {k:IntKind} {z:Value} {s fy:Nat} (hu:P.underlying T=some (.array n E)) (hi:ey P E z s fy) (hx:ev ρ x=.pointer (some ⟨b,o,none⟩)) (hy:ev ρ y=.int k (i:Int)) (eV:i<n):
  QT P base ⟨dst,.indexAddr T x y,t,p,af,g⟩ ρ O (.pointer (some ⟨b,o+i*s,none⟩)):=fun w _=>by
 have h2:(i:Int)<(n:Int):=by omega
 simp[execOp,hx,hy,Instr.indexAt,asIntOf,aT hu,eV,bi hi,Instr.sureAddr,Addr.add]
 try (intro h;rcases h with h|h<;>simp[h])
end
end Go.Lx

namespace Go.Lx
open Go.RowKit
theorem zV {e:Edge} (hb:Region.binds .any e=true): ∀ {l:List Edge},e∈l→(qP l).testBit e.on=true
 |a::l,h=>by
  rw[qP,Nat.testBit_or,Bool.or_eq_true]
  rcases List.mem_cons.1 h with rfl|h
  ·exact .inl (by rw[if_pos hb,Nat.one_shiftLeft,Nat.testBit_two_pow];simp)
  ·exact .inr (zV hb h)
def ya (ops:Array Oper) (d j:Nat):Bool:=!d.testBit j&&Nat.beq (kC ops j&&&d) (kC ops j)
def DC (ops:Array Oper) (d i:Nat):Bool:=match ops[i]? with
 |none=>false
 |some oi=>(List.range ops.size).all fun j=>Nat.beq j i||d.testBit j||(kC ops j).testBit i||match ops[j]? with
  |some oj=>oi.apart ops oj
  |none=>true
def pM (ops:Array Oper) (tail cn:List Nat):List (Nat×Nat)→Nat→Bool
 | [],d=>(List.range ops.size).all fun j=>!ya ops d j
 |(i,0)::l,d=>(n5 ops tail i&&DC ops d i&&Nat.blt i ops.size&&ya ops d i)&&pM ops tail cn l (d|||1<<<i)
 |(i,3)::l,d=>(n5 ops cn i&&DC ops d i&&Nat.blt i ops.size&&ya ops d i)&&pM ops tail cn l (d|||1<<<i)
 |(i,_)::l,d=>(Nat.blt i ops.size&&ya ops d i&&(List.range ops.size).all fun j=>Nat.beq j i||!ya ops d j)&&pM ops tail cn l (d|||1<<<i)
def nz (ops:Array Oper) (listed:Array Bool) (d:Nat):Prop:=listed.size=ops.size∧ ∀k,listed.getD k false=d.testBit k
theorem nz.start (ops:Array Oper):nz ops (Array.replicate ops.size false) 0:=⟨by simp,fun k=>by
 rw[Nat.zero_testBit,Array.getD_eq_getD_getElem?,Array.getElem?_replicate]
 split<;>rfl⟩
theorem nz.set {ops:Array Oper} {listed:Array Bool} {d i:Nat} (h:nz ops listed d) (hi:i<ops.size):nz ops (listed.setIfInBounds i true) (d|||1<<<i):=⟨by simpa using h.1,fun k=>by
 rw[Nat.testBit_or,Nat.one_shiftLeft,Nat.testBit_two_pow,←h.2 k]
 by_cases e:i=k
 ·subst e
  have:i<listed.size:=by rw[h.1];exact hi
  simp[this]
 ·rw[getD_set_ne false e,decide_eq_false e,Bool.or_false]⟩
theorem nz.ready {ops:Array Oper} {listed:Array Bool} {d j:Nat} (h:nz ops listed d) (hj:j<ops.size):j∈Region.ready .any ops listed↔ya ops d j=true:=by
 have e1:listed.getD j true=d.testBit j:=by rw[←h.2 j];exact getD_lt (by rw[h.1];exact hj) _ _
 have ho:ops[j]? =some ops[j]:=Array.getElem?_eq_getElem hj
 have hm:kC ops j=qP ops[j].after.toList:=by unfold kC;rw[ho]
 rw[mem_ready,e1]
 unfold ya
 rw[Bool.and_eq_true,Bool.not_eq_true',Nat.beq_eq,hm]
 refine and_congr_right fun _=>?_
 constructor
 ·rintro⟨o,qH,lS⟩
  rw[ho]at qH;cases qH
  refine Nat.eq_of_testBit_eq fun k=>?_
  rw[Nat.testBit_and]
  cases hk:(qP ops[j].after.toList).testBit k with
  |false=>rfl
  |true=>
   obtain⟨e,he,hb,rfl⟩:=r_ hk
   have:=lS e (by simpa using he) hb
   rw[h.2]at this
   rw[this];rfl
 ·intro he
  refine⟨_,ho,fun e tP hb=>?_⟩
  have hk:=zV hb (l:=ops[j].after.toList) (by simpa using tP)
  rw[h.2]
  rw[←he,Nat.testBit_and,Bool.and_eq_true]at hk
  exact hk.2
theorem uT {ops:Array Oper} {listed:Array Bool} {j:Nat} (h:j∈Region.ready .any ops listed):j<ops.size:=by
 obtain⟨_,o,ho,_⟩:=mem_ready.1 h
 exact(Array.getElem?_eq_some_iff.1 ho).1
theorem Fq {l:List Nat} {i:Nat} (hn:l.Nodup) (h: ∀j,j∈l↔j=i):l=[i]:=by
 cases l with
 |nil=>exact absurd ((h i).2 F) (by simp)
 |cons a l=>
  obtain rfl:a=i:=(h a).1 (by simp)
  have h1:=(List.nodup_cons.1 hn).1
  cases l with
  |nil=>rfl
  |cons b l=>
   have:b=a:=(h b).1 (by simp)
   subst this
   exact absurd (by simp) h1
theorem zW (ops:Array Oper) (listed:Array Bool):(Region.ready .any ops listed).Nodup:=by
 unfold Region.ready
 exact List.nodup_range.filter _
theorem DD {ops:Array Oper} {listed:Array Bool} {d i:Nat} (h:nz ops listed d) (hf:DC ops d i=true):Region.free .any ops listed i=true:=by
 unfold DC at hf
 unfold Region.free
 cases ho:ops[i]? with
 |none=>rw[ho]at hf;cases hf
 |some oi=>
  rw[ho]at hf
  simp only at hf⊢
  rw[List.all_eq_true]at hf⊢
  intro j hj
  have Sa:j<ops.size:=List.mem_range.1 hj
  have h1:=hf j hj
  have e1:listed.getD j true=d.testBit j:=by rw[←h.2 j];exact getD_lt (by rw[h.1];exact Sa) _ _
  have Oo:ops[j]? =some ops[j]:=Array.getElem?_eq_getElem Sa
  rw[Oo]at h1⊢
  simp only[Bool.or_eq_true]at h1⊢
  rw[e1]
  rcases h1 with((h1|h1)|h1)|h1
  ·exact .inl (.inl (by simpa using h1))
  ·exact .inl (.inr h1)
  ·obtain⟨o,qH,e,he,hb,hon⟩:=lE h1
   rw[Oo]at qH;cases qH
   exact .inr (.inl (Array.any_eq_true'.2 ⟨e,he,by rw[hb,hon];simp⟩))
  ·exact .inr (.inr h1)
theorem yd {ops:Array Oper} {tail cn:List Nat} {i:Nat} {l:List (Nat×Nat)} {listed:Array Bool} {d:Nat} (h:nz ops listed d) (ih: ∀ {listed:Array Bool} {d:Nat},nz ops listed d→pM ops tail cn l d=true→h_ ops tail cn l listed=true) (hw:((Nat.blt i ops.size&&ya ops d i&&(List.range ops.size).all fun j=>Nat.beq j i||!ya ops d j)&&pM ops tail cn l (d|||1<<<i))=true):((Region.ready .any ops listed== [i])&&h_ ops tail cn l (listed.setIfInBounds i true))=true:=by
 simp only[Bool.and_eq_true,Nat.blt_eq,List.all_eq_true,Bool.or_eq_true,Nat.beq_eq,Bool.not_eq_true']at hw
 obtain⟨⟨⟨h1,h2⟩,h3⟩,h4⟩:=hw
 rw[Bool.and_eq_true]
 refine⟨?_,ih (h.set h1) h4⟩
 rw[beq_iff_eq]
 refine Fq (zW _ _) fun j=>⟨fun hj=>?_,fun e=>e▸(h.ready h1).2 h2⟩
 have Sa:=uT hj
 rcases h3 j (List.mem_range.2 Sa)with e|e
 ·exact e
 ·rw[(h.ready Sa).1 hj]at e;cases e
theorem mf {ops:Array Oper} {tail cn:List Nat}: ∀ {l:List (Nat×Nat)} {listed:Array Bool} {d:Nat},nz ops listed d→pM ops tail cn l d=true→h_ ops tail cn l listed=true
 | [],listed,d,h,hw=>by
  simp only[pM,List.all_eq_true]at hw
  show(Region.ready .any ops listed).isEmpty=true
  cases hr:Region.ready .any ops listed with
  |nil=>rfl
  |cons j r=>
   have hj:j∈Region.ready .any ops listed:=by rw[hr];simp
   have h1:=hw j (List.mem_range.2 (uT hj))
   rw[(h.ready (uT hj)).1 hj]at h1;cases h1
 |(i,0)::l,listed,d,h,hw=>by
  simp only[pM,Bool.and_eq_true,Nat.blt_eq]at hw
  obtain⟨⟨⟨⟨h1,h2⟩,h3⟩,h4⟩,h5⟩:=hw
  simp only[h_,Bool.and_eq_true]
  exact⟨⟨⟨h1,DD h h2⟩,by simpa using(h.ready h3).2 h4⟩,mf (h.set h3) h5⟩
 |(i,3)::l,listed,d,h,hw=>by
  simp only[pM,Bool.and_eq_true,Nat.blt_eq]at hw
  obtain⟨⟨⟨⟨h1,h2⟩,h3⟩,h4⟩,h5⟩:=hw
  simp only[h_,Bool.and_eq_true]
  exact⟨⟨⟨h1,DD h h2⟩,by simpa using(h.ready h3).2 h4⟩,mf (h.set h3) h5⟩
 |(i,1)::l,listed,d,h,hw=>yd h mf hw
 |(i,2)::l,listed,d,h,hw=>yd h mf hw
 |(i,m+4)::l,listed,d,h,hw=>yd h mf hw
def M1 (ops:Array Oper) (l:List (Nat×Nat)):Bool:=(Region.noSelect ops&&iB ops&&Nat.beq l.length ops.size&&(l.all fun q=>(q.2==2||!(lT l).contains q.1)&&(q.2==2||q.2==4||!(jZ l).contains q.1)))&&pM ops (lT l) (jZ l) l 0
theorem uS {ops:Array Oper} {l:List (Nat×Nat)} (h:M1 ops l=true):uH ops l=true:=by
 simp only[M1,Bool.and_eq_true,Nat.beq_eq]at h
 obtain⟨⟨⟨⟨h1,h2⟩,h3⟩,h4⟩,h5⟩:=h
 simp only[uH,Bool.and_eq_true]
 exact⟨⟨⟨⟨h1,h2⟩,by rw[h3];simp⟩,h4⟩,mf (nz.start ops) h5⟩
end Go.Lx

namespace Go.Proofs.YtgdbfideeeegmaaGreatDoor
open Go.Lx Go.RowKit _root_.Go.Proofs.Tryz
theorem mixed:Tryz.prog.follows .mixedOrders=true:=by kernel_rfl
theorem aO:ey Tryz.prog 3 (.int .i64 0) 1 8:=by unfold ey;kernel_rfl
theorem dU:ey Tryz.prog 4 (.bool false) 1 1:=by unfold ey;kernel_rfl
theorem cI:ey Tryz.prog 5 (.int .u8 0) 1 1:=by unfold ey;kernel_rfl
theorem Cs:ey Tryz.prog 9 (.string ByteArray.empty) 1 16:=by unfold ey;kernel_rfl
theorem dM:ey Tryz.prog 22 ((.slice none 0 0)) 1 24:=by unfold ey;kernel_rfl
theorem cA:ey Tryz.prog 23 ((.slice none 0 0)) 1 24:=by unfold ey;kernel_rfl
theorem aY:ey Tryz.prog 25 ((.agg #[(.int .i64 0),(.int .i64 0),(.slice none 0 0),(.slice none 0 0)])) 4 64:=by unfold ey;kernel_rfl
theorem gB:ey Tryz.prog 27 (.int .i64 0) 1 8:=by unfold ey;kernel_rfl
theorem fJ:ey Tryz.prog 32 ((.slice none 0 0)) 1 24:=by unfold ey;kernel_rfl
theorem bV:ey Tryz.prog 56 ((.slice none 0 0)) 1 24:=by unfold ey;kernel_rfl
theorem lJ:ey Tryz.prog 67 (.int .u8 0) 1 1:=by unfold ey;kernel_rfl
theorem cg:ey Tryz.prog 69 ((.agg #[(.int .u8 0),(.slice none 0 0)])) 2 32:=by unfold ey;kernel_rfl
theorem bN:ey Tryz.prog 72 ((.agg #[(.int .u8 0),(.int .u8 0),(.int .u8 0),(.int .i64 0),(.int .i64 0)])) 5 24:=by unfold ey;kernel_rfl
theorem mq:ey Tryz.prog 75 ((.slice none 0 0)) 1 24:=by unfold ey;kernel_rfl
theorem mz:ey Tryz.prog 79 (.pointer none) 1 8:=by unfold ey;kernel_rfl
theorem Ux:ey Tryz.prog 81 ((.agg #[(.slice none 0 0),(.int .i64 0),(.int .i64 0)])) 3 40:=by unfold ey;kernel_rfl
theorem jL:ey Tryz.prog 96 ((.agg #[(.int .i64 0),(.string ByteArray.empty),(.string ByteArray.empty),(.string ByteArray.empty)])) 4 56:=by unfold ey;kernel_rfl
theorem fe:ey Tryz.prog 112 ((.slice none 0 0)) 1 24:=by unfold ey;kernel_rfl
theorem Qq:ey Tryz.prog 114 ((.agg #[(.pointer none),(.slice none 0 0),(.slice none 0 0)])) 3 56:=by unfold ey;kernel_rfl
theorem dN:ey Tryz.prog 118 ((.agg #[(.int .u8 0),(.int .i64 0),(.int .i64 0),(.slice none 0 0),(.slice none 0 0),(.slice none 0 0),(.bool false)])) 7 104:=by unfold ey;kernel_rfl
theorem oO:ey Tryz.prog 120 ((.slice none 0 0)) 1 24:=by unfold ey;kernel_rfl
theorem eZ:ey Tryz.prog 122 ((.agg #[(.slice none 0 0),(.slice none 0 0)])) 2 48:=by unfold ey;kernel_rfl
theorem eO:ey Tryz.prog 129 ((.agg #[(.int .u8 0),(.int .u8 0)])) 2 2:=by unfold ey;kernel_rfl
theorem I4:ey Tryz.prog 140 (.nilFunc) 1 8:=by unfold ey;kernel_rfl
theorem Qw:ey Tryz.prog 146 ((.agg #[(.int .i64 0),(.int .i64 0),(.slice none 0 0),(.slice none 0 0)])) 4 64:=by unfold ey;kernel_rfl
theorem O6:ey Tryz.prog 149 ((.agg #[(.string ByteArray.empty),(.int .i64 0),(.slice none 0 0),(.int .i64 0)])) 4 56:=by unfold ey;kernel_rfl
theorem sh:ey Tryz.prog 153 ((.agg #[(.int .i64 0),(.int .i64 0)])) 2 16:=by unfold ey;kernel_rfl
theorem yP:ey Tryz.prog 160 (.map none) 1 8:=by unfold ey;kernel_rfl
theorem ve:ey Tryz.prog 163 ((.agg #[])) 0 0:=by unfold ey;kernel_rfl
theorem yH:ey Tryz.prog 167 ((.slice none 0 0)) 1 24:=by unfold ey;kernel_rfl
theorem gO:ey Tryz.prog 169 ((.agg #[(.int .i64 0),(.int .i64 0),(.slice none 0 0)])) 3 40:=by unfold ey;kernel_rfl
theorem fx:ey Tryz.prog 173 ((.agg #[(.int .i64 0),(.int .i64 0)])) 2 16:=by unfold ey;kernel_rfl
theorem I5:ey Tryz.prog 180 (.nilFunc) 1 8:=by unfold ey;kernel_rfl
theorem fu:ey Tryz.prog 208 ((.agg #[(.int .i64 0),(.slice none 0 0)])) 2 32:=by unfold ey;kernel_rfl
theorem H9:ey Tryz.prog 209 (.nilFunc) 1 8:=by unfold ey;kernel_rfl
theorem sF:ey Tryz.prog 227 (.pointer none) 1 8:=by unfold ey;kernel_rfl
theorem fH:ey Tryz.prog 234 ((.agg #[(.int .i64 0),(.int .i64 0)])) 2 16:=by unfold ey;kernel_rfl
theorem np:ey Tryz.prog 235 ((.slice none 0 0)) 1 24:=by unfold ey;kernel_rfl
theorem yQ:ey Tryz.prog 236 (.map none) 1 8:=by unfold ey;kernel_rfl
theorem C0:ey Tryz.prog 238 ((.agg #[(.int .i64 0),(.int .i64 0),(.slice none 0 0),(.slice none 0 0),(.int .i64 0),(.int .i64 0),(.slice none 0 0),(.slice none 0 0),(.slice none 0 0),(.map none)])) 10 160:=by unfold ey;kernel_rfl
theorem Qy:ey Tryz.prog 260 ((.agg #[(.int .u8 0),(.int .u8 0),(.int .u8 0),(.int .u8 0),(.int .u8 0),(.int .u8 0),(.int .u8 0),(.int .u8 0),(.int .u8 0),(.int .u8 0),(.int .u8 0),(.int .u8 0),(.int .u8 0),(.int .u8 0),(.int .u8 0),(.int .u8 0),(.int .u8 0),(.int .u8 0),(.int .u8 0),(.int .u8 0),(.int .u8 0),(.int .u8 0),(.int .u8 0),(.int .u8 0)])) 24 24:=by unfold ey;kernel_rfl
theorem gD:n_ Tryz.prog 25 [(0,1),(1,1),(2,1),(3,1)]:=⟨_,underlying25,fun w=>by simp[bi aO,bi dM,bi cA]⟩
theorem ot:n_ Tryz.prog 69 [(0,1),(1,1)]:=⟨_,underlying69,fun w=>by simp[bi fJ,bi lJ]⟩
theorem k_:n_ Tryz.prog 72 [(0,1),(1,1),(2,1),(3,1),(4,1)]:=⟨_,underlying72,fun w=>by simp[bi aO,bi cI]⟩
theorem Qz:n_ Tryz.prog 81 [(0,1),(1,1),(2,1)]:=⟨_,underlying81,fun w=>by simp[bi aO,bi fJ]⟩
theorem qx:n_ Tryz.prog 96 [(0,1),(1,1),(2,1),(3,1)]:=⟨_,underlying96,fun w=>by simp[bi aO,bi Cs]⟩
theorem L2:n_ Tryz.prog 114 [(0,1),(1,1),(2,1)]:=⟨_,underlying114,fun w=>by simp[bi bV,bi mz,bi fe]⟩
theorem yM:n_ Tryz.prog 118 [(0,1),(1,4),(5,1),(6,1)]:=⟨_,underlying118,fun w=>by simp[bi dU,bi cI,bi aY,bi bV]⟩
theorem Ea:n_ Tryz.prog 122 [(0,1),(1,1)]:=⟨_,underlying122,fun w=>by simp[bi bV,bi oO]⟩
theorem gM:n_ Tryz.prog 129 [(0,1),(1,1)]:=⟨_,underlying129,fun w=>by simp[bi cI]⟩
theorem L6:n_ Tryz.prog 146 [(0,4)]:=⟨_,underlying146,fun w=>by simp[bi aY]⟩
theorem K8:n_ Tryz.prog 149 [(0,1),(1,1),(2,1),(3,1)]:=⟨_,underlying149,fun w=>by simp[bi aO,bi Cs,bi gB,bi fJ]⟩
theorem rn:n_ Tryz.prog 163 []:=⟨_,underlying163,fun w=>by simp[]⟩
theorem yJ:n_ Tryz.prog 169 [(0,1),(1,1),(2,1)]:=⟨_,underlying169,fun w=>by simp[bi aO,bi yH]⟩
theorem D4:n_ Tryz.prog 208 [(0,1),(1,1)]:=⟨_,underlying208,fun w=>by simp[bi aO,bi bV]⟩
theorem Ef:n_ Tryz.prog 234 [(0,1),(1,1)]:=⟨_,underlying234,fun w=>by simp[bi aO]⟩
theorem yR:n_ Tryz.prog 238 [(0,4),(4,4),(8,1),(9,1)]:=⟨_,underlying238,fun w=>by simp[bi aY,bi np,bi yQ]⟩
theorem Eg:Lx.Enters Tryz.prog 11 f11:=⟨func11,by kernel_rfl,F⟩
theorem S9:Lx.Enters Tryz.prog 14 f14:=⟨func14,by kernel_rfl,F⟩
theorem S_:Lx.Enters Tryz.prog 15 f15:=⟨func15,by kernel_rfl,F⟩
theorem Nj:Lx.Enters Tryz.prog 16 f16:=⟨func16,by kernel_rfl,F⟩
theorem Uy:Lx.Enters Tryz.prog 18 f18:=⟨func18,by kernel_rfl,F⟩
theorem DT:Lx.Enters Tryz.prog 19 f19:=⟨func19,by kernel_rfl,F⟩
theorem SP:Lx.Enters Tryz.prog 22 f22:=⟨func22,by kernel_rfl,F⟩
theorem xo:Lx.Enters Tryz.prog 23 f23:=⟨func23,by kernel_rfl,F⟩
theorem Uz:Lx.Enters Tryz.prog 28 f28:=⟨func28,by kernel_rfl,F⟩
theorem Ni:Lx.Enters Tryz.prog 29 f29:=⟨func29,by kernel_rfl,F⟩
theorem SF:Lx.Enters Tryz.prog 31 f31:=⟨func31,by kernel_rfl,F⟩
theorem HR:Lx.Enters Tryz.prog 32 f32:=⟨func32,by kernel_rfl,F⟩
theorem Ac:Lx.Enters Tryz.prog 39 f39:=⟨func39,by kernel_rfl,F⟩
theorem Hv:Lx.Enters Tryz.prog 40 f40:=⟨func40,by kernel_rfl,F⟩
theorem M7:Lx.Enters Tryz.prog 41 f41:=⟨func41,by kernel_rfl,F⟩
theorem Sq:Lx.Enters Tryz.prog 42 f42:=⟨func42,by kernel_rfl,F⟩
theorem NR:Lx.Enters Tryz.prog 43 f43:=⟨func43,by kernel_rfl,F⟩
theorem NS:Lx.Enters Tryz.prog 44 f44:=⟨func44,by kernel_rfl,F⟩
theorem I6:Lx.Enters Tryz.prog 45 f45:=⟨func45,by kernel_rfl,F⟩
theorem UA:Lx.Enters Tryz.prog 46 f46:=⟨func46,by kernel_rfl,F⟩
theorem SL:Lx.Enters Tryz.prog 47 f47:=⟨func47,by kernel_rfl,F⟩
theorem DM:Lx.Enters Tryz.prog 48 f48:=⟨func48,by kernel_rfl,F⟩
theorem DP:Lx.Enters Tryz.prog 49 f49:=⟨func49,by kernel_rfl,F⟩
theorem NT:Lx.Enters Tryz.prog 50 f50:=⟨func50,by kernel_rfl,F⟩
theorem NU:Lx.Enters Tryz.prog 51 f51:=⟨func51,by kernel_rfl,F⟩
theorem UB:Lx.Enters Tryz.prog 52 f52:=⟨func52,by kernel_rfl,F⟩
theorem Uw:Lx.Enters Tryz.prog 54 f54:=⟨func54,by kernel_rfl,F⟩
theorem Ed:Lx.Enters Tryz.prog 56 f56:=⟨func56,by kernel_rfl,F⟩
theorem UC:Lx.Enters Tryz.prog 58 f58:=⟨func58,by kernel_rfl,F⟩
theorem SQ:Lx.Enters Tryz.prog 59 f59:=⟨func59,by kernel_rfl,F⟩
theorem Sc:Lx.Enters Tryz.prog 67 f67:=⟨func67,by kernel_rfl,F⟩
theorem Hn:Lx.Enters Tryz.prog 68 f68:=⟨func68,by kernel_rfl,F⟩
theorem UD:Lx.Enters Tryz.prog 69 f69:=⟨func69,by kernel_rfl,F⟩
theorem NQ:Lx.Enters Tryz.prog 70 f70:=⟨func70,by kernel_rfl,F⟩
theorem NP:Lx.Enters Tryz.prog 71 f71:=⟨func71,by kernel_rfl,F⟩
theorem nD:Lx.Enters Tryz.prog 72 f72:=⟨func72,by kernel_rfl,F⟩
theorem A3:Lx.Enters Tryz.prog 73 f73:=⟨func73,by kernel_rfl,F⟩
theorem Up:Lx.Enters Tryz.prog 74 f74:=⟨func74,by kernel_rfl,F⟩
theorem Un:Lx.Enters Tryz.prog 75 f75:=⟨func75,by kernel_rfl,F⟩
theorem Uc:Lx.Enters Tryz.prog 76 f76:=⟨func76,by kernel_rfl,F⟩
theorem Ug:Lx.Enters Tryz.prog 77 f77:=⟨func77,by kernel_rfl,F⟩
theorem Ue:Lx.Enters Tryz.prog 78 f78:=⟨func78,by kernel_rfl,F⟩
theorem SG:Lx.Enters Tryz.prog 79 f79:=⟨func79,by kernel_rfl,F⟩
theorem SI:Lx.Enters Tryz.prog 80 f80:=⟨func80,by kernel_rfl,F⟩
theorem NV:Lx.Enters Tryz.prog 81 f81:=⟨func81,by kernel_rfl,F⟩
theorem NW:Lx.Enters Tryz.prog 82 f82:=⟨func82,by kernel_rfl,F⟩
theorem tA:Lx.Enters Tryz.prog 83 f83:=⟨func83,by kernel_rfl,F⟩
theorem UE:Lx.Enters Tryz.prog 84 f84:=⟨func84,by kernel_rfl,F⟩
theorem I7:Lx.Enters Tryz.prog 85 f85:=⟨func85,by kernel_rfl,F⟩
theorem UF:Lx.Enters Tryz.prog 86 f86:=⟨func86,by kernel_rfl,F⟩
theorem Uu:Lx.Enters Tryz.prog 89 f89:=⟨func89,by kernel_rfl,F⟩
theorem I3:Lx.Enters Tryz.prog 90 f90:=⟨func90,by kernel_rfl,F⟩
theorem NX:Lx.Enters Tryz.prog 91 f91:=⟨func91,by kernel_rfl,F⟩
theorem NY:Lx.Enters Tryz.prog 94 f94:=⟨func94,by kernel_rfl,F⟩
theorem UG:Lx.Enters Tryz.prog 95 f95:=⟨func95,by kernel_rfl,F⟩
theorem Aq:Lx.Enters Tryz.prog 96 f96:=⟨func96,by kernel_rfl,F⟩
theorem PT:Lx.Enters Tryz.prog 100 f100:=⟨func100,by kernel_rfl,F⟩
theorem oL:Lx.Enters Tryz.prog 101 f101:=⟨func101,by kernel_rfl,F⟩
theorem Iq:Lx.Enters Tryz.prog 102 f102:=⟨func102,by kernel_rfl,F⟩
theorem CI:Lx.Enters Tryz.prog 103 f103:=⟨func103,by kernel_rfl,F⟩
theorem Ik:Lx.Enters Tryz.prog 104 f104:=⟨func104,by kernel_rfl,F⟩
theorem PJ:Lx.Enters Tryz.prog 105 f105:=⟨func105,by kernel_rfl,F⟩
theorem PN:Lx.Enters Tryz.prog 106 f106:=⟨func106,by kernel_rfl,F⟩
theorem PO:Lx.Enters Tryz.prog 107 f107:=⟨func107,by kernel_rfl,F⟩
theorem CE:Lx.Enters Tryz.prog 108 f108:=⟨func108,by kernel_rfl,F⟩
theorem IK:Lx.Enters Tryz.prog 109 f109:=⟨func109,by kernel_rfl,F⟩
theorem CK:Lx.Enters Tryz.prog 110 f110:=⟨func110,by kernel_rfl,F⟩
theorem Ql:Lx.Enters Tryz.prog 111 f111:=⟨func111,by kernel_rfl,F⟩
theorem sv:Lx.Enters Tryz.prog 112 f112:=⟨func112,by kernel_rfl,F⟩
theorem IM:Lx.Enters Tryz.prog 113 f113:=⟨func113,by kernel_rfl,F⟩
theorem CN:Lx.Enters Tryz.prog 114 f114:=⟨func114,by kernel_rfl,F⟩
theorem yK:Lx.Enters Tryz.prog 115 f115:=⟨func115,by kernel_rfl,F⟩
theorem ID:Lx.Enters Tryz.prog 116 f116:=⟨func116,by kernel_rfl,F⟩
theorem Qj:Lx.Enters Tryz.prog 117 f117:=⟨func117,by kernel_rfl,F⟩
theorem QA:Lx.Enters Tryz.prog 118 f118:=⟨func118,by kernel_rfl,F⟩
theorem QB:Lx.Enters Tryz.prog 119 f119:=⟨func119,by kernel_rfl,F⟩
theorem I8:Lx.Enters Tryz.prog 120 f120:=⟨func120,by kernel_rfl,F⟩
theorem Oe:Lx.Enters Tryz.prog 121 f121:=⟨func121,by kernel_rfl,F⟩
theorem Of:Lx.Enters Tryz.prog 122 f122:=⟨func122,by kernel_rfl,F⟩
theorem QC:Lx.Enters Tryz.prog 124 f124:=⟨func124,by kernel_rfl,F⟩
theorem Qs:Lx.Enters Tryz.prog 127 f127:=⟨func127,by kernel_rfl,F⟩
theorem QD:Lx.Enters Tryz.prog 128 f128:=⟨func128,by kernel_rfl,F⟩
theorem js:Lx.Enters Tryz.prog 132 f132:=⟨func132,by kernel_rfl,F⟩
theorem yn:Lx.Enters Tryz.prog 133 f133:=⟨func133,by kernel_rfl,F⟩
theorem OU:Lx.Enters Tryz.prog 134 f134:=⟨func134,by kernel_rfl,F⟩
theorem OV:Lx.Enters Tryz.prog 135 f135:=⟨func135,by kernel_rfl,F⟩
theorem CH:Lx.Enters Tryz.prog 138 f138:=⟨func138,by kernel_rfl,F⟩
theorem QE:Lx.Enters Tryz.prog 139 f139:=⟨func139,by kernel_rfl,F⟩
theorem PI:Lx.Enters Tryz.prog 140 f140:=⟨func140,by kernel_rfl,F⟩
theorem PH:Lx.Enters Tryz.prog 141 f141:=⟨func141,by kernel_rfl,F⟩
theorem PC:Lx.Enters Tryz.prog 142 f142:=⟨func142,by kernel_rfl,F⟩
theorem PE:Lx.Enters Tryz.prog 143 f143:=⟨func143,by kernel_rfl,F⟩
theorem H6:Lx.Enters Tryz.prog 144 f144:=⟨func144,by kernel_rfl,F⟩
theorem PA:Lx.Enters Tryz.prog 145 f145:=⟨func145,by kernel_rfl,F⟩
theorem HZ:Lx.Enters Tryz.prog 146 f146:=⟨func146,by kernel_rfl,F⟩
theorem Cy:Lx.Enters Tryz.prog 147 f147:=⟨func147,by kernel_rfl,F⟩
theorem yB:Lx.Enters Tryz.prog 148 f148:=⟨func148,by kernel_rfl,F⟩
theorem H4:Lx.Enters Tryz.prog 149 f149:=⟨func149,by kernel_rfl,F⟩
theorem PG:Lx.Enters Tryz.prog 150 f150:=⟨func150,by kernel_rfl,F⟩
theorem QF:Lx.Enters Tryz.prog 151 f151:=⟨func151,by kernel_rfl,F⟩
theorem QG:Lx.Enters Tryz.prog 152 f152:=⟨func152,by kernel_rfl,F⟩
theorem H7:Lx.Enters Tryz.prog 153 f153:=⟨func153,by kernel_rfl,F⟩
theorem Px:Lx.Enters Tryz.prog 154 f154:=⟨func154,by kernel_rfl,F⟩
theorem Pr:Lx.Enters Tryz.prog 155 f155:=⟨func155,by kernel_rfl,F⟩
theorem Ps:Lx.Enters Tryz.prog 156 f156:=⟨func156,by kernel_rfl,F⟩
theorem Pu:Lx.Enters Tryz.prog 157 f157:=⟨func157,by kernel_rfl,F⟩
theorem P3:Lx.Enters Tryz.prog 159 f159:=⟨func159,by kernel_rfl,F⟩
theorem yu:Lx.Enters Tryz.prog 160 f160:=⟨func160,by kernel_rfl,F⟩
theorem P7:Lx.Enters Tryz.prog 161 f161:=⟨func161,by kernel_rfl,F⟩
theorem IH:Lx.Enters Tryz.prog 162 f162:=⟨func162,by kernel_rfl,F⟩
theorem P8:Lx.Enters Tryz.prog 163 f163:=⟨func163,by kernel_rfl,F⟩
theorem P0:Lx.Enters Tryz.prog 164 f164:=⟨func164,by kernel_rfl,F⟩
theorem PZ:Lx.Enters Tryz.prog 165 f165:=⟨func165,by kernel_rfl,F⟩
theorem PV:Lx.Enters Tryz.prog 166 f166:=⟨func166,by kernel_rfl,F⟩
theorem PS:Lx.Enters Tryz.prog 167 f167:=⟨func167,by kernel_rfl,F⟩
theorem QH:Lx.Enters Tryz.prog 168 f168:=⟨func168,by kernel_rfl,F⟩
theorem lw:Lx.Enters Tryz.prog 171 f171:=⟨func171,by kernel_rfl,F⟩
theorem ym:Lx.Enters Tryz.prog 189 f189:=⟨func189,by kernel_rfl,F⟩
theorem C1:Lx.Enters Tryz.prog 190 f190:=⟨func190,by kernel_rfl,F⟩
theorem I9:Lx.Enters Tryz.prog 191 f191:=⟨func191,by kernel_rfl,F⟩
theorem Ph:Lx.Enters Tryz.prog 192 f192:=⟨func192,by kernel_rfl,F⟩
theorem Pj:Lx.Enters Tryz.prog 193 f193:=⟨func193,by kernel_rfl,F⟩
theorem Cv:Lx.Enters Tryz.prog 194 f194:=⟨func194,by kernel_rfl,F⟩
theorem Pg:Lx.Enters Tryz.prog 195 f195:=⟨func195,by kernel_rfl,F⟩
theorem Pf:Lx.Enters Tryz.prog 196 f196:=⟨func196,by kernel_rfl,F⟩
theorem Pk:Lx.Enters Tryz.prog 197 f197:=⟨func197,by kernel_rfl,F⟩
theorem Pm:Lx.Enters Tryz.prog 198 f198:=⟨func198,by kernel_rfl,F⟩
theorem HU:Lx.Enters Tryz.prog 210 f210:=⟨func210,by kernel_rfl,F⟩
theorem P6:Lx.Enters Tryz.prog 211 f211:=⟨func211,by kernel_rfl,F⟩
theorem P4:Lx.Enters Tryz.prog 212 f212:=⟨func212,by kernel_rfl,F⟩
theorem PY:Lx.Enters Tryz.prog 213 f213:=⟨func213,by kernel_rfl,F⟩
theorem QI:Lx.Enters Tryz.prog 214 f214:=⟨func214,by kernel_rfl,F⟩
theorem QJ:Lx.Enters Tryz.prog 215 f215:=⟨func215,by kernel_rfl,F⟩
theorem QK:Lx.Enters Tryz.prog 216 f216:=⟨func216,by kernel_rfl,F⟩
theorem I_:Lx.Enters Tryz.prog 218 f218:=⟨func218,by kernel_rfl,F⟩
theorem QL:Lx.Enters Tryz.prog 219 f219:=⟨func219,by kernel_rfl,F⟩
theorem HT:Lx.Enters Tryz.prog 231 f231:=⟨func231,by kernel_rfl,F⟩
theorem P1:Lx.Enters Tryz.prog 232 f232:=⟨func232,by kernel_rfl,F⟩
theorem IE:Lx.Enters Tryz.prog 240 f240:=⟨func240,by kernel_rfl,F⟩
end Go.Proofs.YtgdbfideeeegmaaGreatDoor


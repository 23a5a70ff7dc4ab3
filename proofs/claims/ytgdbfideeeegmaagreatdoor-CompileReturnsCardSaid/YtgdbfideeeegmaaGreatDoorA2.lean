/- Contracts of functions of the program, and what they answer. Conditions: those each theorem names. -/
import Derived.Test.YtgdbfideeeegmaaGreatDoorA1
import Derived.Shelf.Strconv.Itoa3
import Derived.Lib.AppendIntMem
import Derived.Lib.TrailingZeros
import Derived.Maps.RangeRun
import Derived.Test.YtgdbfideeeegmaaGreatDoorRows
import Derived.Test.YtgdbfideeeegmaaGreatDoorA0
set_option linter.unusedSectionVars false
set_option linter.unusedSimpArgs false
set_option linter.unusedVariables false
set_option linter.unnecessarySimpa false
set_option maxHeartbeats 8000000
set_option maxRecDepth 20000
namespace Go.Lx
theorem oT {α:Type} {p:List α→Prop} (h0:p []) (h1: ∀l x,p l→p (l++[x])): ∀l,p l:=fun l=>by
 rw[←List.reverse_reverse l]
 generalize l.reverse=m
 induction m with
 |nil=>exact h0
 |cons a m ih=>rw[List.reverse_cons];exact h1 _ _ ih
abbrev dT (d:cM):Nat:=2^d.vars.toNat
def runN (d:cM) (s:Nat) (w:List Nat):Nat:=w.foldl (e7 d) s
def dD (d:cM) (s:Nat):Bool:=d.aV.getD s false
def dst (d:cM) (s t:Nat) (w:List Nat):Prop:=dD d (runN d s w)≠dD d (runN d t w)
def Wd (d:cM) (w:List Nat):Prop:= ∀x∈w,x<dT d
def code (w:List Nat):Nat:=w.foldl (fun a x=>a*65+(x+1)) 0
theorem fR (d:cM) (s:Nat) (w:List Nat) (x:Nat):runN d s (w++[x])=e7 d (runN d s w) x:=by simp[runN]
end Go.Lx

namespace Go.Lx
open Go.RowKit
section
variable {P:Program} {r:Option Nat} {base:World} {n:Nat} {ρ:Env} {O:List Item} {Q:kF}
theorem Jg {x:Code} (K:Env→List Item→Prop) (h:T P r base n x (I5 K Q) ρ O) (hk: ∀ρ O,K ρ O→Q .normal ρ O):T P r base n x Q ρ O:=
 h.mono fun e ρ O h=>by cases e<;>first|exact hk ρ O h|exact h
variable {t:TypeId} {p:String} {af:Array Edge} {g:Option (Nat×Bool)} {dst:Option Nat}
theorem BH {x y:Operand} {T E U:TypeId} {b:Option Addr} {n c:Nat} (hu:P.underlying T=some (.slice E)) (hx:ev ρ x=.slice b n c) (hy:ev ρ y=.slice none 0 0):QT P base ⟨dst,.binOp .eql T x y U,t,p,af,g⟩ ρ O (.bool b.isNone):=fun w _=>by
 have h:(Op.equal T (.slice b n c) (.slice none 0 0)).run P w=.ok b.isNone w:=by
  show(Op.equalIn (9999+1) T _ _).run P w=_
  rw[Op.equalIn]
  cases b<;>simp[bH hu]
 simp[execOp,hx,hy,eqGuard,binOp,h]
theorem qg {x:Nat} (h:x<256):IntKind.u8.wrap (x:Int)=(x:Int):=by
 simp only[IntKind.wrap,IntKind.signed,IntKind.bits]
 simp
 omega
end
end Go.Lx

namespace Go.Lx
open Go.RowKit
theorem kG {d:cM} (hv:Val d) {s:Nat} (hs:s<d.next.length): ∀w,Wd d w→runN d s w<d.next.length:=by
 refine oT (fun _=>hs) ?_
 intro w x ih hw
 rw[fR]
 exact(hv.gV (ih fun y hy=>hw y (by simp[hy])) (hw x (by simp))).1
end Go.Lx
namespace Go.Lx
open Go.RowKit
end Go.Lx

namespace Go.Lx
section
variable {α β:Type} [DecidableEq α] [DecidableEq β]
def wv (l:List α):List Nat:=l.map fun k=>ix k (dd l)
theorem sA (l:List α):(wv l).length=l.length:=ar _
theorem kW {l:List α} {i:Nat} {a:α} (h:l[i]? =some a):(wv l)[i]? =some (ix a (dd l)):=by
 rw[wv,bq,h];rfl
theorem Gl {l:List α} {i j:Nat} {a b:α} (hi:l[i]? =some a) (hj:l[j]? =some b):(wv l)[i]? =(wv l)[j]? ↔a=b:=by
 rw[kW hi,kW hj]
 refine⟨fun h=>Ti (jT.2 (bS hi)) (jT.2 (bS hj)) (cZ h),fun h=>h▸rfl⟩
theorem kD {l:List α} {a:α} (h:a∈l):dd (l++[a])=dd l:=by
 rw[AZ,add,aR (jT.2 h)]
theorem kE {l:List α} {a:α} (h:a∉l):dd (l++[a])=dd l++[a]:=by
 rw[AZ,add,ay (fun hh=>h (jT.1 hh))]
theorem H4: ∀zs:List (α×β),(∀p∈zs,∀q∈zs,p.1=q.1↔p.2=q.2)→
  (dd (zs.map Prod.fst)).length=(dd (zs.map Prod.snd)).length∧ ∀p∈zs,ix p.1 (dd (zs.map Prod.fst))=ix p.2 (dd (zs.map Prod.snd)):=by
 refine oT (fun _=>⟨F,fun p hp=>by simp at hp⟩) ?_
 intro zs z ih h
 obtain⟨h1,h2⟩:=ih fun p hp q hq=>h p (aQ _ hp) q (aQ _ hq)
 have hz:z∈zs++[z]:=by simp
 have vG:z.1∈zs.map Prod.fst↔z.2∈zs.map Prod.snd:=by
  constructor
  ·intro hm
   obtain⟨p,hp,e⟩:=List.mem_map.1 hm
   exact List.mem_map.2 ⟨p,hp,((h p (aQ _ hp) z hz).1 e)⟩
  ·intro hm
   obtain⟨p,hp,e⟩:=List.mem_map.1 hm
   exact List.mem_map.2 ⟨p,hp,((h p (aQ _ hp) z hz).2 e)⟩
 simp only[bo,cD,fz]
 by_cases hm:z.1∈zs.map Prod.fst
 ·rw[kD hm,kD (vG.1 hm)]
  refine⟨h1,fun p hp=>?_⟩
  rcases List.mem_append.1 hp with hp|hp
  ·exact h2 p hp
  ·simp only[db]at hp
   subst hp
   obtain⟨q,hq,e⟩:=List.mem_map.1 hm
   have e2:=(h q (aQ _ hq) p hz).1 e
   rw[←e,←e2];exact h2 q hq
 ·have Bu:z.2∉zs.map Prod.snd:=fun hh=>hm (vG.2 hh)
  rw[kE hm,kE Bu]
  refine⟨by simp[h1],fun p hp=>?_⟩
  rcases List.mem_append.1 hp with hp|hp
  ·rw[kX (jT.2 (List.mem_map_of_mem hp)),kX (jT.2 (List.mem_map_of_mem hp))]
   exact h2 p hp
  ·simp only[db]at hp
   subst hp
   rw[fM (fun hh=>hm (jT.1 hh)),fM (fun hh=>Bu (jT.1 hh)),h1]
   simp[ix]
theorem Ls: ∀zs:List (α×β),(∀p∈zs,∀q∈zs,p.1=q.1→p.2=q.2)→
  (dd (zs.map Prod.snd)).length≤(dd (zs.map Prod.fst)).length∧((dd (zs.map Prod.snd)).length=(dd (zs.map Prod.fst)).length→ ∀p∈zs,∀q∈zs,p.2=q.2→p.1=q.1):=by
 refine oT (fun _=>⟨a8 _,fun _ p hp=>by simp at hp⟩) ?_
 intro zs z ih h
 obtain⟨h1,h2⟩:=ih fun p hp q hq=>h p (aQ _ hp) q (aQ _ hq)
 have hz:z∈zs++[z]:=by simp
 simp only[bo,cD,fz]
 by_cases hm:z.1∈zs.map Prod.fst
 ·obtain⟨q,hq,e⟩:=List.mem_map.1 hm
  have e2:=h q (aQ _ hq) z hz e
  have Bu:z.2∈zs.map Prod.snd:=List.mem_map.2 ⟨q,hq,e2⟩
  rw[kD hm,kD Bu]
  refine⟨h1,fun he p hp p' TX ee=>?_⟩
  have TV:=h2 he
  have lift: ∀p∈zs++[z],∃p0∈zs,p0.1=p.1∧p0.2=p.2:=fun p hp=>by
   rcases List.mem_append.1 hp with hp|hp
   ·exact⟨p,hp,F,F⟩
   ·simp only[db]at hp;subst hp;exact⟨q,hq,e,e2⟩
  obtain⟨a,ha,a1,a2⟩:=lift p hp
  obtain⟨b,hb,b1,b2⟩:=lift p' TX
  rw[←a1,←b1];exact TV a ha b hb (by rw[a2,b2,ee])
 ·rw[kE hm]
  by_cases Bu:z.2∈zs.map Prod.snd
  ·rw[kD Bu]
   refine⟨by simp;omega,fun he=>?_⟩
   simp at he;omega
  ·rw[kE Bu]
   refine⟨by simp;omega,fun he p hp p' TX ee=>?_⟩
   have TV:=h2 (by simpa using he)
   rcases List.mem_append.1 hp with gp|gp
   ·rcases List.mem_append.1 TX with Tj|Tj
    ·exact TV p gp p' Tj ee
    ·have e:=List.mem_singleton.1 Tj
     exact(Bu (List.mem_map.2 ⟨p,gp,by rw[ee,e]⟩)).elim
   ·have e:=List.mem_singleton.1 gp
    rcases List.mem_append.1 TX with Tj|Tj
    ·exact(Bu (List.mem_map.2 ⟨p',Tj,by rw[←ee,e]⟩)).elim
    ·rw[e,List.mem_singleton.1 Tj]
theorem nm: ∀ {l:List α} {m:List β},l.length=m.length→(l.zip m).map Prod.fst=l∧(l.zip m).map Prod.snd=m
 | [],[],_=>⟨F,F⟩
 |a::l,b::m,h=>by
  obtain⟨h1,h2⟩:=nm (l:=l) (m:=m) (by simpa using h)
  simp[h1,h2]
theorem A2 {l:List α} {m:List β} (h:l.length=m.length) {p:α×β} (hp:p∈l.zip m): ∃i:Nat,l[i]? =some p.1∧m[i]? =some p.2:=by
 obtain⟨i,hi⟩:=List.getElem?_of_mem hp
 refine⟨i,?_,?_⟩
 ·have:=ax (Option.map Prod.fst) hi
  rw[←bq,(nm h).1]at this;simpa using this
 ·have:=ax (Option.map Prod.snd) hi
  rw[←bq,(nm h).2]at this;simpa using this
theorem zR {l:List α} {m:List β} (hl:l.length=m.length) (h: ∀(i j:Nat) (a b:α) (a' b':β),l[i]? =some a→l[j]? =some b→m[i]? =some a'→m[j]? =some b'→(a=b↔a'=b')):wv l=wv m∧(dd l).length=(dd m).length:=by
 have h0:=H4 (l.zip m) fun p hp q hq=>by
  obtain⟨i,a1,a2⟩:=A2 hl hp
  obtain⟨j,b1,b2⟩:=A2 hl hq
  exact h i j _ _ _ _ a1 b1 a2 b2
 rw[(nm hl).1,(nm hl).2]at h0
 refine⟨?_,h0.1⟩
 apply List.ext_getElem?
 intro i
 by_cases hi:i<l.length
 ·have Hd:i<m.length:=by omega
  rw[kW (ap hi),kW (ap Hd)]
  have:(l[i],m[i])∈l.zip m:=by
   apply bS (i:=i)
   rw[List.getElem?_zip_eq_some]
   exact⟨ap hi,ap Hd⟩
  exact ax some (h0.2 _ this)
 ·rw[bQ (by rw[sA];omega),bQ (by rw[sA];omega)]
end
def MK (d:cM):Nat→Nat→Nat→Bool
 |0,s,t=>dD d s !=dD d t
 |k+1,s,t=>MK d k s t||(List.range (dT d)).any fun x=>MK d k (e7 d s x) (e7 d t x)
theorem tH (d:cM): ∀k s t,MK d k s t=true↔ ∃u,Wd d u∧u.length≤k∧dst d s t u
 |0,s,t=>by
  simp only[MK,bne_iff_ne]
  constructor
  ·exact fun h=>⟨[],fun x hx=>by simp at hx,a8 _,h⟩
  ·rintro⟨u,_,hl,h⟩
   have:u=[]:=List.eq_nil_of_length_eq_zero (by omega)
   subst this;exact h
 |k+1,s,t=>by
  simp only[MK,Bool.or_eq_true,dW,fj,tH d k]
  constructor
  ·rintro(⟨u,h1,h2,h3⟩|⟨x,hx,u,h1,h2,h3⟩)
   ·exact⟨u,h1,by omega,h3⟩
   ·refine⟨x::u,fun y hy=>?_,by simp;omega,h3⟩
    rcases List.mem_cons.1 hy with rfl|hy
    ·exact hx
    ·exact h1 y hy
  ·rintro⟨u,h1,h2,h3⟩
   cases u with
   |nil=>exact .inl ⟨[],h1,by simp,h3⟩
   |cons x u=>exact .inr ⟨x,h1 x (by simp),u,fun y hy=>h1 y (by simp[hy]),by simpa using h2,h3⟩
theorem nK {d:cM} (hv:Val d) {s x:Nat} (hs:s<d.next.length) (hx:x<dT d):e7 d s x<d.next.length:=(hv.gV hs hx).1
theorem Lt {d:cM} (hv:Val d) {cs:List Nat} (n3:cs.length=d.next.length) {s t:Nat} (hs:s<d.next.length) (ht:t<d.next.length):
  xZ d cs s=xZ d cs t↔cs.getD s 0=cs.getD t 0∧ ∀x,x<dT d→cs.getD (e7 d s x) 0=cs.getD (e7 d t x) 0:=by
 have Z8:(d.next.getD s []).length=dT d:=by simp[hs];exact hv.len _ (aL hs)
 have gn:(d.next.getD t []).length=dT d:=by simp[ht];exact hv.len _ (aL ht)
 have row: ∀s,(d.next.getD s []).length=dT d→ ∀x,x<dT d→(fW cs (d.next.getD s []))[x]? =some (cs.getD (e7 d s x) 0):=by
  intro s hl x hx
  have sQ:x<(d.next.getD s []).length:=by omega
  have e:(d.next.getD s []).getD x 0=(d.next.getD s [])[x]:=by rw[aw,ap sQ];rfl
  rw[fW,bq,ap sQ,e7,e]
  rfl
 constructor
 ·intro h
  obtain⟨h1,h2⟩:=Jj h
  refine⟨h1,fun x hx=>?_⟩
  have a:=row s Z8 x hx
  rw[h2,row t gn x hx]at a
  exact(cZ a).symm
 ·rintro⟨h1,h2⟩
  unfold xZ
  rw[h1]
  congr 1
  apply List.ext_getElem?
  intro x
  by_cases hx:x<dT d
  ·rw[row s Z8 x hx,row t gn x hx,h2 x hx]
  ·rw[bQ (by rw[iG];omega),bQ (by rw[iG];omega)]
theorem vy (d:cM) (cs:List Nat):iP d cs=wv (iX d cs):=rfl
theorem mL {d:cM} {cs:List Nat} {s:Nat} (hs:s<d.next.length):(iX d cs)[s]? =some (xZ d cs s):=by simp[iX,hs]
theorem sB {d:cM} {s:Nat} (hs:s<d.next.length):(mi d)[s]? =some (if dD d s≠dD d 0 then 1 else 0):=by
 simp[mi,hs,dD]
theorem j8 {l:List Nat} {i a:Nat} (h:l[i]? =some a):l.getD i 0=a:=by rw[aw,h];rfl
theorem pt {d:cM} (hv:Val d): ∀k s t,s<d.next.length→t<d.next.length→((ie d k).getD s 0=(ie d k).getD t 0↔MK d k s t=false)
 |0,s,t,hs,ht=>by
  rw[ie,j8 (sB hs),j8 (sB ht),MK]
  cases dD d s<;>cases dD d t<;>cases dD d 0<;>simp
 |k+1,s,t,hs,ht=>by
  have ih:=pt hv k
  rw[ie,vy]
  have h1:=Gl (mL (cs:=ie d k) hs) (mL (cs:=ie d k) ht)
  have e1:(wv (iX d (ie d k))).getD s 0=(wv (iX d (ie d k))).getD t 0↔(wv (iX d (ie d k)))[s]? =(wv (iX d (ie d k)))[t]? :=by
   rw[kW (mL hs),kW (mL ht),j8 (kW (mL hs)),j8 (kW (mL ht))]
   simp
  rw[e1,h1,Lt hv (ft d k) hs ht,ih s t hs ht,MK,Bool.or_eq_false_iff]
  refine and_congr Iff.rfl ?_
  rw[List.any_eq_false]
  constructor
  ·intro h x hx
   have sQ:=List.mem_range.1 hx
   rw[Bool.not_eq_true,←ih _ _ (nK hv hs sQ) (nK hv ht sQ)]
   exact h x sQ
  ·intro h x hx
   rw[ih _ _ (nK hv hs hx) (nK hv ht hx),←Bool.not_eq_true]
   exact h x (List.mem_range.2 hx)
end Go.Lx

namespace Go.Lx
section
variable {α:Type} [DecidableEq α]
theorem Oy (l:List α):wv (wv l)=wv l:=by
 refine(zR (by rw[sA]) ?_).1
 intro i j a b a' b' hi hj qX wP
 have:=Gl qX wP
 rw[hi,hj]at this
 simpa using this
def first (p:Nat→Bool):Nat→Nat
 |0=>0
 |n+1=>if first p n<n then first p n else if p n then n else n+1
theorem Lu (p:Nat→Bool): ∀n,first p n≤n
 |0=>a8 _
 |n+1=>by
  have:=Lu p n
  rw[first]
  split
  ·omega
  ·split<;>omega
end
theorem vz: ∀(l:List Nat),(∀x∈l,x≤1)→l.foldl add [0,1]=[0,1]∧(l.foldl add [0]=[0]∧1∉l∨l.foldl add [0]=[0,1]∧1∈l)
 | [],_=>by simp
 |x::l,h=>by
  obtain⟨h1,h2⟩:=vz l fun y hy=>h y (by simp[hy])
  have hx:=h x (by simp)
  have:x=0∨x=1:=by omega
  rcases this with rfl|rfl
  ·refine⟨?_,?_⟩
   ·rw[cV,show add [0,1] 0=[0,1] by decide];exact h1
   ·rw[cV,show add [0] 0=[0] by decide]
    rcases h2 with⟨a,b⟩|⟨a,b⟩
    ·exact .inl ⟨a,by simp[b]⟩
    ·exact .inr ⟨a,by simp[b]⟩
  ·refine⟨?_,?_⟩
   ·rw[cV,show add [0,1] 1=[0,1] by decide];exact h1
   ·rw[cV,show add [0] 1=[0,1] by decide]
    exact .inr ⟨h1,by simp⟩
theorem Xl {l:List Nat} (h0:l.headD 0=0) (h: ∀x∈l,x≤1):wv l=l:=by
 cases l with
 |nil=>rfl
 |cons a l=>
  simp at h0
  subst h0
  have e:dd (0::l)=l.foldl add [0]:=by simp[dd,add]
  have h2:=(vz l fun y hy=>h y (by simp[hy])).2
  rw[wv,e]
  conv=>rhs;rw[←List.map_id (0::l)]
  apply List.map_congr_left
  intro x hx
  have Od:=h x hx
  have:x=0∨x=1:=by omega
  rcases this with rfl|rfl
  ·rcases h2 with⟨a,b⟩|⟨a,b⟩<;>rw[a]<;>decide
  ·rcases h2 with⟨a,b⟩|⟨a,b⟩
   ·simp at hx;exact absurd hx b
   ·rw[a];decide
theorem pu (d:cM): ∀k,wv (ie d k)=ie d k
 |0=>by
  refine Xl ?_ ?_
  ·rw[ie]
   cases e:(mi d)with
   |nil=>rfl
   |cons a l=>
    have:(mi d)[0]? =some a:=by rw[e];rfl
    have hn:0<d.next.length:=by
     have:(mi d).length=d.next.length:=by simp[mi]
     rw[e]at this;simp at this;omega
    rw[sB hn]at this
    simpa using this.symm
  ·intro x hx
   obtain⟨s,_,rfl⟩:=List.mem_map.1 hx
   split<;>omega
 |k+1=>by rw[ie,vy,Oy]
theorem C8 {d:cM} {k m s t:Nat} (h:k≤m) (hd:MK d k s t=true):MK d m s t=true:=by
 obtain⟨u,h1,h2,h3⟩:=(tH d k s t).1 hd
 exact(tH d m s t).2 ⟨u,h1,by omega,h3⟩
theorem Gm {d:cM} {k s:Nat} (hs:s<d.next.length):(ie d k)[s]? =some ((ie d k).getD s 0):=by
 have:s<(ie d k).length:=by rw[ft];exact hs
 rw[aw,ap this];rfl
def A3 (d:cM) (k:Nat):Nat:=(dd (ie d k)).length
theorem H5 {d:cM} (hv:Val d) (k:Nat):A3 d k≤A3 d (k+1)∧(A3 d k=A3 d (k+1)→ie d (k+1)=ie d k):=by
 have hl:(ie d (k+1)).length=(ie d k).length:=by rw[ft,ft]
 have at_: ∀p∈(ie d (k+1)).zip (ie d k),∃s,s<d.next.length∧(ie d (k+1)).getD s 0=p.1∧(ie d k).getD s 0=p.2:=fun p hp=>by
  obtain⟨i,a1,a2⟩:=A2 hl hp
  refine⟨i,?_,j8 a1,j8 a2⟩
  have:=(List.getElem?_eq_some_iff.1 a2).1
  rwa[ft]at this
 have h:=Ls ((ie d (k+1)).zip (ie d k)) fun p hp q hq e=>by
  obtain⟨s,hs,a1,a2⟩:=at_ p hp
  obtain⟨t,ht,b1,b2⟩:=at_ q hq
  rw[←a1,←b1,pt hv _ s t hs ht]at e
  rw[←a2,←b2,pt hv _ s t hs ht,←Bool.not_eq_true]
  intro hh
  rw[C8 (Nat.le_succ k) hh]at e;cases e
 rw[(nm hl).1,(nm hl).2]at h
 refine⟨h.1,fun e=>?_⟩
 have h2:=h.2 e
 rw[←pu d (k+1),←pu d k]
 refine(zR hl ?_).1
 intro i j a b a' b' hi hj qX wP
 have hm: ∀ {i a a'},(ie d (k+1))[i]? =some a→(ie d k)[i]? =some a'→(a,a')∈(ie d (k+1)).zip (ie d k):=fun {i a a'} x y=>by
  apply bS (i:=i)
  rw[List.getElem?_zip_eq_some]
  exact⟨x,y⟩
 refine⟨fun e=>?_,h2 _ (hm hi qX) _ (hm hj wP)⟩
 have DU:i<d.next.length:=by have:=(List.getElem?_eq_some_iff.1 qX).1;rwa[ft]at this
 have hjn:j<d.next.length:=by have:=(List.getElem?_eq_some_iff.1 wP).1;rwa[ft]at this
 rw[←j8 hi,←j8 hj,pt hv _ i j DU hjn]at e
 rw[←j8 qX,←j8 wP,pt hv _ i j DU hjn,←Bool.not_eq_true]
 intro hh
 rw[C8 (Nat.le_succ k) hh]at e;cases e
theorem Oz (d:cM) (k:Nat):A3 d k≤d.next.length:=by
 have:=uH (ie d k)
 rw[ft]at this;exact this
theorem Lv {d:cM} (hv:Val d) (k:Nat):0<A3 d k:=by
 have h:(ie d k).getD 0 0∈dd (ie d k):=jT.2 (bS (Gm hv.n0))
 exact List.length_pos_of_mem h
theorem C9 {d:cM} (hv:Val d): ∀k,(∃j,j<k∧ie d (j+1)=ie d j)∨k+1≤A3 d k
 |0=>.inr (Lv hv 0)
 |k+1=>by
  rcases C9 hv k with⟨j,hj,h⟩|h
  ·exact .inl ⟨j,by omega,h⟩
  ·obtain⟨h1,h2⟩:=H5 hv k
   by_cases e:A3 d k=A3 d (k+1)
   ·exact .inl ⟨k,by omega,h2 e⟩
   ·exact .inr (by omega)
theorem Lw {d:cM} (hv:Val d): ∀m,d.next.length≤m→ie d m=ie d d.next.length:=by
 intro m hm
 rcases C9 hv d.next.length with⟨j,hj,h⟩|h
 ·have hs:iP d (ie d j)=ie d j:=by rw[←ie];exact h
  rw[sC hs m (by omega),sC hs d.next.length (by omega)]
 ·have:=Oz d d.next.length;omega
theorem OA {d:cM} (hv:Val d) {s t:Nat} (hs:s<d.next.length) (ht:t<d.next.length):
  (ie d d.next.length).getD s 0=(ie d d.next.length).getD t 0↔ ∀u,Wd d u→ ¬dst d s t u:=by
 constructor
 ·intro h u hu hd
  have h2:(ie d (max u.length d.next.length)).getD s 0=(ie d (max u.length d.next.length)).getD t 0:=by rw[Lw hv _ (by omega)];exact h
  rw[pt hv _ s t hs ht,←Bool.not_eq_true]at h2
  exact h2 ((tH d _ s t).2 ⟨u,hu,by omega,hd⟩)
 ·intro h
  rw[pt hv _ s t hs ht,←Bool.not_eq_true]
  intro hh
  obtain⟨u,h1,_,h3⟩:=(tH d _ s t).1 hh
  exact h u h1 h3
theorem tI {d:cM} {α:Type} [DecidableEq α] {l:List α} {cs:List Nat} (hl:l.length=d.next.length) (yx:cs=wv l): ∀k,k≤d.next.length→(iO d cs k).1.length=(dd (l.take k)).length
 |0,_=>by simp[iO,dd]
 |k+1,hk=>by
  have Z9:k<l.length:=by omega
  have ih:=tI hl yx k (by omega)
  have hg:=ap Z9
  have hc:cs.getD k 0=ix l[k] (dd l):=by rw[yx];exact j8 (kW hg)
  have hp:dd (l.take k)<+:dd l:=by
   conv=>rhs;rw[←List.take_append_drop k l]
   rw[uI];exact gD _ _
  rw[iO,ih,hc,aH Z9]
  by_cases hm:l[k]∈l.take k
  ·rw[kD hm,ig hp (jT.2 hm),aR (rJ (jT.2 hm)),ih]
  ·have zi:dd (l.take k)++[l[k]]<+:dd l:=by
    rw[←kE hm,←aH Z9]
    conv=>rhs;rw[←List.take_append_drop (k+1) l]
    rw[uI];exact gD _ _
   have e:ix l[k] (dd l)=(dd (l.take k)).length:=by
    rw[ig zi (by simp),fM (fun hh=>hm (jT.1 hh))];simp[ix]
   rw[kE hm,e,ay (Nat.lt_irrefl _)]
   simp[ih]
theorem rr {d:cM} (cs:List Nat): ∀k,∀r∈(iO d cs k).1,∃s,s<k∧r=(fW cs (d.next.getD s [])).map fun c:Nat=>(c:Int)
 |0,r,h=>by simp[iO]at h
 |k+1,r,h=>by
  rw[iO]at h
  split at h
  ·obtain⟨s,hs,e⟩:=rr cs k r h;exact⟨s,by omega,e⟩
  ·rcases List.mem_append.1 h with h|h
   ·obtain⟨s,hs,e⟩:=rr cs k r h;exact⟨s,by omega,e⟩
   ·exact⟨k,by omega,List.mem_singleton.1 h⟩
theorem Gn {d:cM} {cs:List Nat} (hl:cs.length=d.next.length) (hc:wv cs=cs):(quo d cs).next.length=(dd cs).length:=by
 show(iO d cs d.next.length).1.length=_
 rw[tI (l:=cs) hl hc.symm _ (a8 _),bt (by omega)]
theorem Ly {cs:List Nat} (hc:wv cs=cs) {i c:Nat} (h:cs[i]? =some c):c<(dd cs).length:=by
 have h2:=kW h
 rw[hc,h]at h2
 have:=rJ (jT.2 (bS h))
 have e:=cZ h2
 omega
theorem Gp {d:cM} (hv:Val d) {cs:List Nat} (hl:cs.length=d.next.length) (hc:wv cs=cs):Val (quo d cs):=by
 have hq:=Gn hl hc
 have gn: ∀i,i<d.next.length→cs.getD i 0<(dd cs).length:=fun i hi=>by
  have qX:i<cs.length:=by omega
  have:=ap qX
  rw[j8 this];exact Ly hc this
 have h1:=(kH d cs d.next.length)
 refine⟨hv.v0,hv.v6,?_,?_,?_,?_,?_,?_⟩
 ·rw[hq];have:=gn 0 hv.n0;omega
 ·exact h1.1.symm
 ·exact Int.natCast_nonneg _
 ·rw[hq]
  show((cs.getD d.start.toNat 0:Nat):Int)<_
  have:=gn d.start.toNat (by have:=hv.s0;have:=hv.s1;omega)
  omega
 ·intro r hr
  obtain⟨s,hs,rfl⟩:=rr cs _ r hr
  rw[ar,iG]
  simp[hs]
  exact hv.len _ (aL hs)
 ·intro r hr x hx
  rw[hq]
  obtain⟨s,hs,rfl⟩:=rr cs _ r hr
  obtain⟨c,TU,rfl⟩:=List.mem_map.1 hx
  refine⟨Int.natCast_nonneg _,?_⟩
  obtain⟨to,vo,rfl⟩:=List.mem_map.1 TU
  simp[hs]at vo
  have:=hv.ok _ (aL hs) to vo
  have:=gn to.toNat (by omega)
  omega
theorem H6 {d:cM} (hv:Valid d) {cs:List Nat} (hl:cs.length=d.next.length) (hc:wv cs=cs):Valid (quo d cs):=
 ⟨Gp hv hl hc,by have:=(kH d cs d.next.length).2;have:=hv.n4;show(iO d cs d.next.length).1.length≤_;omega⟩
theorem OC {d:cM} (hv:Val d) (k:Nat):Val (quo d (ie d k))∧(quo d (ie d k)).next.length≤d.next.length:=
 ⟨Gp hv (ft d k) (pu d k),(kH d _ _).2⟩
theorem Gq {d:cM} (hv:Valid d) (k:Nat):Valid (quo d (ie d k))∧(quo d (ie d k)).next.length≤d.next.length:=
 ⟨H6 hv (ft d k) (pu d k),(kH d _ _).2⟩
end Go.Lx

namespace Go.Lx
open Go.RowKit
end Go.Lx

namespace Go.Lx
open Go.RowKit
theorem mm {n:Nat}: ∀(l ks:List Nat),ks.Nodup→(∀k∈ks,k<n)→(∀k∈l,k<n)→(l.foldl add ks).Nodup∧ ∀k∈l.foldl add ks,k<n
 | [],ks,h1,h2,_=>⟨h1,h2⟩
 |a::l,ks,h1,h2,h3=>mm l (add ks a) (mK h1) (fun k hk=>(rp.1 hk).elim (h2 k) fun e=>e▸h3 a (by simp)) fun k hk=>h3 k (by simp[hk])
theorem OP {d:cM} (hv:Val d) {o:Nat} (ho:o<d.next.length): ∀t∈mB d o,t<d.next.length:=fun t ht=>by
 obtain⟨x,hx,rfl⟩:=List.mem_map.1 ht
 exact(hv.gV ho (List.mem_range.1 hx)).1
theorem v_ {d:cM} (hv:Val d): ∀i,(da d i).Nodup∧ ∀o∈da d i,o<d.next.length
 |0=>by
  refine⟨by simp[da],fun o ho=>?_⟩
  simp only[da,db]at ho
  have:=hv.s0;have:=hv.s1;omega
 |i+1=>by
  obtain⟨h1,h2⟩:=v_ hv i
  rw[da]
  split
  ·rename_i hi
   refine mm _ _ h1 h2 (OP hv (h2 _ ?_))
   rw[aw,ap hi]
   exact aL hi
  ·exact⟨h1,h2⟩
theorem x8 {d:cM} (hv:Val d) (i:Nat):(da d i).length≤d.next.length:=eT (v_ hv i).1 (v_ hv i).2
theorem ub {d:cM} {i o:Nat} (h:(da d i)[i]? =some o):da d (i+1)=(mB d o).foldl add (da d i):=by
 have hi:=(List.getElem?_eq_some_iff.1 h).1
 rw[da,aR hi,aw,h];rfl
def kI (d:cM) (i o x:Nat):List Nat:=((List.range x).map (e7 d o)).foldl add (da d i)
theorem uP (d:cM) (i o x:Nat):kI d i o (x+1)=add (kI d i o x) (e7 d o x):=iW _ _ _
theorem qW {d:cM} (hv:Val d):(order d).length≤d.next.length:=x8 hv _
theorem x7 {d:cM} (hv:Val d): ∃N,N≤d.next.length∧(da d N).length=N∧(∀j,j<N→j<(da d j).length):=by
 have step: ∀k,(∃N,N≤k∧(da d N).length=N∧ ∀j,j<N→j<(da d j).length)∨((∀j,j<k→j<(da d j).length)∧k≤(da d k).length):=by
  intro k
  induction k with
  |zero=>exact .inr ⟨fun j hj=>absurd hj (by omega),bs _⟩
  |succ k ih=>
   rcases ih with⟨N,h1,h2⟩|⟨h1,h2⟩
   ·exact .inl ⟨N,by omega,h2⟩
   ·by_cases e:(da d k).length=k
    ·exact .inl ⟨k,by omega,e,h1⟩
    ·refine .inr ⟨fun j hj=>?_,?_⟩
     ·by_cases ej:j=k
      ·subst ej;omega
      ·exact h1 j (by omega)
     ·have hi:k<(da d k).length:=by omega
      rw[ub (ap hi)]
      have:=(gD (mB d (da d k)[k]) (da d k)).length_le
      omega
 rcases step d.next.length with h|⟨h1,h2⟩
 ·exact h
 ·exact⟨d.next.length,a8 _,by have:=x8 hv d.next.length;omega,h1⟩
theorem jy (d:cM): ∀(i m:Nat),i≤m→da d i<+:da d m:=by
 intro i m h
 induction h with
 |refl=>exact List.prefix_refl _
 | @step m _ ih=>
  refine ih.trans ?_
  rw[da]
  split
  ·exact gD _ _
  ·exact List.prefix_refl _
theorem tJ {d:cM} (hv:Val d): ∀o∈order d,∀t∈mB d o,t∈order d:=by
 obtain⟨N,hN,hl,hj⟩:=x7 hv
 have e:=pX hl hN
 intro o ho t ht
 rw[e]at ho⊢
 obtain⟨j,Yi⟩:=List.getElem?_of_mem ho
 have hjl:=(List.getElem?_eq_some_iff.1 Yi).1
 have Mt:=hj j (by omega)
 have hp:=jy d j N (by omega)
 have aaD:(da d j)[j]? =some o:=by
  obtain⟨r,hr⟩:=hp
  rw[←hr,bI Mt]at Yi
  exact Yi
 have zi:=jy d (j+1) N (by omega)
 refine zi.subset ?_
 rw[ub aaD]
 exact(eN _ _).2 (.inr ht)
theorem Db (d:cM) (o:Nat):(mB d o).length=2^d.vars.toNat:=by simp[mB]
theorem x5 {d:cM} {o x:Nat} (h:x<2^d.vars.toNat):(mB d o)[x]? =some (e7 d o x):=by simp[mB,h]
def rS (d:cM) (o:Nat):List Nat:=(mB d o).map fun t=>ix t (order d)
theorem nR (d:cM) (o:Nat):(rS d o).length=2^d.vars.toNat:=by simp[rS,mB]
theorem DN (d:cM):(ek d).next=(order d).map fun o=>(rS d o).map fun x:Nat=>(x:Int):=by
 simp[ek,rS,Function.comp_def]
end Go.Lx

namespace Go.Lx
end Go.Lx

namespace Go.Lx
open Go.RowKit
theorem gg {P:Program} {base:World} {f:FuncId} {args:List Value} {O:List Item} {R:Value→List Item→Prop} (E:TypeId) (k:Nat) (h:cd P base f args O R):cd P base f args O (fun v O'=> ∃O2,O'=aq none 0 E k []::O2∧R v O2):=
 fun w M hI=>(h w M hI).mono fun _ _ ⟨v,O',h1,h2,h3⟩=>⟨v,_,h1,h2.eY E k,O',F,h3⟩
theorem sK {P:Program} {base:World} {f:FuncId} {args:List Value} {R:Value→List Item→Prop} (h:cd P base f args [] R):cd P base f args [] (fun v O'=>O'=[]∧ ∃O2,R v O2):=
 fun w M hI=>(h w M hI).mono fun _ _ ⟨v,O',h1,h2,h3⟩=>⟨v,[],h1,by simpa using h2.j_ (cj (List.sublist_append_right O' M)),F,O',h3⟩
theorem MN {α:Type} {p:α→Prop} {a:α} {l:List α} (h1:p a) (h2: ∀q∈l,p q): ∀q∈a::l,p q:=fun q h=>by
 rcases List.mem_cons.1 h with rfl|h
 ·exact h1
 ·exact h2 q h
def fJ (d:cM):cM:=ek (quo d (ie d d.next.length))
def rO (d:cM):cM:=if cX d=0 then fJ d else⟨0,0,[],[]⟩
end Go.Lx

namespace Go.Lx
open Go.RowKit Go.Sort
def Pn:List Int:=Lib.deBruijn64tab.map fun n:Nat=>(n:Int)
class dB (P:Program) (base:World):Prop where
 tab: ∀w,Below base.heap.size base w→Lib.TabIs P w "internal/strconv.uint64pow10" .u64 Lib.pow10Tab
 tz:P.globalNamed "math/bits.deBruijn64tab" =none∨ ∀w,Below base.heap.size base w→Lib.TabIs P w "math/bits.deBruijn64tab" .u8 Pn
theorem dB.of {P:Program} {w:World} (h:Lib.TabIs P w "internal/strconv.uint64pow10" .u64 Lib.pow10Tab) (h2:P.globalNamed "math/bits.deBruijn64tab" =none∨Lib.TabIs P w "math/bits.deBruijn64tab" .u8 Pn):dB P w:=⟨fun w' hb=>Lib.tabBelow_of_tabIs h w' hb,h2.imp id fun h w' hb=>Lib.tabBelow_of_tabIs h w' hb⟩
theorem dB.is {P:Program} {w:World} (h:dB P w):Lib.TabIs P w "internal/strconv.uint64pow10" .u64 Lib.pow10Tab:=h.tab w (Below.refl _ _)
theorem Inv.tab {P:Program} {base:World} {O:List Item} {w:World} (hI:Inv base O w) [t:dB P base]:dB P w:=.of (t.tab w hI.below) (t.tz.imp id fun h=>h w hI.below)
theorem Inv.grow {base:World} {O:List Item} {w:World} (h:Inv base O w) (k:Nat) (os:Array Obj):Inv base O (Go.Sort.grow (w.drewN k) os):=by
 refine Inv.new (N:=[]) h F F F ?_ ?_ (by simp) (by simp) (by simp)
 ·show w.heap.size≤(w.heap++os).size
  simp
 ·intro b hb
  show(w.heap++os)[b]? =w.heap[b]?
  rw[Array.getElem?_append_left hb]
theorem cd.drop {P:Program} {base:World} {f:FuncId} {args:List Value} {O:List Item} {R R':Value→List Item→Prop} (h:cd P base f args O R) (hr: ∀v O',R v O'→ ∃yn,Sub yn O'∧R' v yn):cd P base f args O R':=
 fun w M hI=>(h w M hI).mono fun _ _ ⟨v,O',h1,h2,h3⟩=>let⟨yn,hs,h4⟩:=hr v O' h3;⟨v,yn,h1,h2.j_ hs.oM,h4⟩
theorem nO {P:Program} {W:World} {x:String×DataW Unit} {rest:List (String×DataW Unit)} {ps:List MemPlace} (h:DataW.LaidVars P W (x::rest) ps): ∃q,DataW.LaidVars P W rest q:=by
 obtain⟨g',t',cs,gu,p,q,UU,Mr,UV,hd,hr,_⟩:=h
 exact⟨q,hr⟩
theorem rE {P:Program} {W:World} {name:String} {k:IntKind} {zs:List Int} {D:DataW Unit} {rest:List (String×DataW Unit)} {ps:List MemPlace} {g:Nat} {t e:TypeId} {n:Nat} (hD:D=Lib.tabData k zs)
  (hg:P.globalNamed name=some g) (hty:(P.globals[g]?).map (·.type)=some t) (ht:P.underlying t=some (.array n e)) (he:P.underlying e=some (.int k)) (Hn:P.cellsOf e=1) (hct:P.cellsOf t=n)
  (h:DataW.LaidVars P W ((name,D)::rest) ps):Lib.TabIs P W name k zs:=by
 subst hD
 obtain⟨g',t',cs,gu,p,q,UU,Mr,UV,hd,_,_⟩:=h
 obtain rfl:=cZ (hg.symm.trans UU)
 obtain rfl:=cZ (hty.symm.trans Mr)
 unfold Lib.TabIs
 rw[UV,←Lib.cells_of_tab ht he Hn hct hd]
def Y3 (n:Nat) (cs:Array Value):Prop:= ∀j (h:j<(di (Lib.decDigits n)).length),cs[j]? =some (di (Lib.decDigits n))[j]
theorem M9 {P:Program} {f:FuncId} {base:World} {b T n:Nat} {Z:Array Value} (hZ: ∀j,j<24→Z[j]? =some (.int .u8 0)) (UW:1≤n) (hn:n<1000000000000)
  (hc: ∀(ll off cap u:Nat) (d:Array UInt8) (w:World),Holds (fun(b:UInt8)=>Value.int .u8 (b.toNat:Int)) w ll off d→u<10^d.size→u<18446744073709551616→d.size<4611686018427387904→
   Calls P f #[.slice (some ⟨ll,off,none⟩) d.size cap,.int .u64 u] w fun e w'=>e=.returned (.tuple #[])∧ ∃(n v':Nat) (dk:Array UInt8),w'=(putRow (fun(b:UInt8)=>Value.int .u8 (b.toNat:Int)) w ll off dk).drewN n∧Lib.FmtInv d.size u 0 v' dk):
  cd P base f [.slice (some ⟨b,0,none⟩) (Lib.nDigits n) 24,.int .u64 (n:Int)] [dR b (.cells Z T (0,0))] (fun v O'=>v=.tuple #[]∧ ∃cs,O'=[dR b (.cells cs T (0,0))]∧Y3 n cs):=by
 intro w M hI
 have hb:w.heap[b]? =some (.cells Z T (0,0)):=hI.holds _ (List.mem_cons_self ..)
 have lx:Lib.nDigits n≤20:=by have:=Lib.numDigits_eq n UW (by omega);split at this<;>omega
 have hH:Holds (fun(b:UInt8)=>Value.int .u8 (b.toNat:Int)) w b 0 (Array.replicate (Lib.nDigits n) 0):=fun j hj=>by
  have wP:j<Lib.nDigits n:=by simpa using hj
  refine⟨?_,?_⟩
  ·rw[getElem!_pos _ j hj]
   simp[World.cell?,hb,hZ j (by omega)]
  ·simp[World.frozen?,hb]
 have:=hc b 0 24 n (Array.replicate (Lib.nDigits n) 0) w hH (by rw[Array.size_replicate];exact Lib.lt_pow_nDigits n) (by omega) (by rw[Array.size_replicate];omega)
 rw[Array.size_replicate]at this
 refine this.mono ?_
 rintro e w' ⟨rfl,k,v',dk,rfl,hF⟩
 obtain⟨D,hD⟩: ∃D,D=putCells (fun(b:UInt8)=>Value.int .u8 (b.toNat:Int)) 0 dk Z:=⟨_,F⟩
 have It:(putRow (fun(b:UInt8)=>Value.int .u8 (b.toNat:Int)) w b 0 dk).heap[b]? =some (.cells D T (0,0)):=by
  show(w.heap.modify b _)[b]? =_
  rw[Array.getElem?_modify,aR F,hb,hD];rfl
 have ho: ∀x,x≠b→(putRow (fun(b:UInt8)=>Value.int .u8 (b.toNat:Int)) w b 0 dk).heap[x]? =w.heap[x]? :=fun x hx=>by
  show(w.heap.modify b _)[x]? =_
  rw[Array.getElem?_modify,ay (fun e=>hx e.symm)]
 have h1: ∀j,j<dk.size→(putRow (fun(b:UInt8)=>Value.int .u8 (b.toNat:Int)) w b 0 dk).cell? ⟨b,0+j,none⟩=some (.int .u8 (dk[j]!.toNat:Int)):=fun j hj=>cell?_putRow _ w b 0 _ dk hH (by rw[hF.size,Array.size_replicate]) j hj
 have hs:(putRow (fun(b:UInt8)=>Value.int .u8 (b.toNat:Int)) w b 0 dk).heap.size=w.heap.size:=by simp
 have e1:(putRow (fun(b:UInt8)=>Value.int .u8 (b.toNat:Int)) w b 0 dk).os=w.os:=rfl
 have e2:(putRow (fun(b:UInt8)=>Value.int .u8 (b.toNat:Int)) w b 0 dk).tape=w.tape:=rfl
 have e3:(putRow (fun(b:UInt8)=>Value.int .u8 (b.toNat:Int)) w b 0 dk).output=w.output:=rfl
 generalize putRow (fun(b:UInt8)=>Value.int .u8 (b.toNat:Int)) w b 0 dk=w1 at*
 have UQ:Inv base ([dR b (.cells D T (0,0))]++M) w1:=by
  refine hI.rU (i:=0) (it:=dR b (.cells Z T (0,0))) (QQ:=dR b (.cells D T (0,0))) F e1 e2 e3 (by omega) ?_ It (fun x hx=>.inl hx) (by simp[dR])
  intro x hx wh
  exact ho x (fun e=>wh (by simp[dR,e]))
 refine⟨_,[dR b (.cells D T (0,0))],F,UQ.same F F F F,F,D,F,?_⟩
 ·intro j hj
  have wP:j<(Lib.decDigits n).length:=by simpa[di]using hj
  have se:j<dk.size:=by rw[hF.size];rwa[Lib.decDigits_length]at wP
  have h3:D[j]? =some (.int .u8 (dk[j]!.toNat:Int)):=by have:=h1 j se;simpa[World.cell?,It]using this
  rw[h3,←Lib.row_is_numeral hF j wP]
  simp[di]
section
variable {P:Program} {r:Option Nat} {base:World} {n:Nat} {ρ:Env} {O:List Item} {dst:Option Nat} {d:Nat} {t:TypeId} {p:String} {af:Array Edge} {g:Option (Nat×Bool)} {K:Env→List Item→Prop}
theorem BK {T E:TypeId} {x y:Operand} {b m h gN:Nat} {z:Value} (hu:P.underlying T=some (.array m E)) (hi:fK P E z 1 gN) (hx:ev ρ x=.pointer (some ⟨b,0,none⟩)) (hy:ev ρ y=.int .i64 (h:Int)) (hh:h≤m) (h0:1≤h):
  QT P base ⟨dst,.slice T x none (some y) none,t,p,af,g⟩ ρ O (.slice (some ⟨b,0,none⟩) h m):=fun w hI=>by
 have e1:(h:Int)≤(m:Int):=by omega
 have e2:(0:Int)≤(h:Int):=by omega
 simp[execOp,Instr.sliceAt,Instr.sureAddr,hx,hy,bH hu,bZ hi,Instr.sliceBounds,Instr.sliceBound,asIntOf,e1,e2,q5,hh]
theorem Ho {T U E A:TypeId} {b:Option Addr} {m c l ca k gN:Nat} {x y:Operand} {z:Value} {cs new:List Value} {arr:Array Value} (i j:Nat)
  (hu:P.underlying T=some (.slice E)) (M2:P.underlying U=some (.slice E)) (hi:fK P E z 1 gN) (hz:z.cells.size=1)
  (hx:ev ρ x=.slice b m c) (hy:ev ρ y=.slice (some ⟨k,0,none⟩) l ca) (hO:O[j]? =some (aq b c E 1 cs)) (hl:cs.length=m) (hs:new.length=l)
  (hA:O[i]? =some (dR k (.cells arr A (0,0)))) (hn': ∀q (h:q<new.length),arr[q]? =some new[q]) (vK:(new.all fu)=true)
  (sN:(m+l)*gN≤70368744177664) (Pg:gN≤1000000) (Hi:0<gN)
  (h: ∀b' c',K (oX ρ d (.slice b' (m+l) c')) (O.set j (aq b' c' E 1 (cs++new)))) (hn:Nat.blt d n=true:=by rfl):
  LT P r base n ⟨some d,.call ⟨.builtin .append,#[x,y],#[T,U]⟩,t,p,af,g⟩ ρ O K:=
 ja hn fun w M hI=>by
  have Q4:Src P base (O++M) 1 l (.slice (some ⟨k,0,none⟩) l ca) new:=⟨by omega,fun w=>by simp[Builtin.lenOf],fun w hI=>iS (fun q hq=>⟨⟨k,0,none⟩,F,F,by
   have hb:w.heap[k]? =some (.cells arr A (0,0)):=hI.holds _ (bS (mP hA))
   simp[World.cell?,hb,hn' q hq]⟩) (by omega) (fun e=>by cases e)⟩
  obtain⟨b',c',w',hr,nT⟩:=r8 (ty:=t) hu M2 (.inl ⟨_,F⟩) hi hz (mP hO) (by simpa using hl) (by decide) Q4 vK sN Pg Hi hI
  rw[o5 hO]at nT
  refine⟨_,w',_,?_,nT,h b' c'⟩
  simp[execOp,resolve,hx,hy,invoke,builtin,hr]
end
end Go.Lx

namespace Go.Lx
open Go.RowKit
section
variable {P:Program} {r:Option Nat} {base:World} {n:Nat} {ρ:Env} {O:List Item} {K':Env→List Item→Prop} {d:Nat} {t:TypeId} {p:String} {af:Array Edge} {g:Option (Nat×Bool)}
end
end Go.Lx

namespace Go.Lx
open Go.RowKit
section
variable {P:Program} {base:World} {ρ:Env} {O:List Item} {dst:Option Nat} {t:TypeId} {p:String} {af:Array Edge} {g:Option (Nat×Bool)}
theorem nA {x:Nat} (h:x<2^64):IntKind.u64.wrap (x:Int)=(x:Int):=by
 simp only[IntKind.wrap,IntKind.signed,IntKind.bits]
 simp
 omega
inductive UK:IntKind→Prop
 |u8:UK .u8
 |u64:UK .u64
theorem UK.wrap {k:IntKind} (hk:UK k) {x:Nat} (h:x<2^k.bits):k.wrap (x:Int)=(x:Int):=by
 cases hk
 ·exact qg (by simpa[IntKind.bits]using h)
 ·exact nA (by simpa[IntKind.bits]using h)
theorem Q8 {x y:Operand} {T U:TypeId} {k:IntKind} {a b:Nat} (hk:UK k) (hx:ev ρ x=.int k (a:Int)) (hy:ev ρ y=.int k (b:Int)) (ha:a<2^k.bits) (hb:b<2^k.bits):QT P base ⟨dst,.binOp .or T x y U,t,p,af,g⟩ ρ O (.int k ((a|||b:Nat):Int)):=fun w _=>by
 have:=hk.wrap (Nat.or_lt_two_pow ha hb)
 simp[execOp,hx,hy,eqGuard,binOp,Op.intBits,Nat.mod_eq_of_lt ha,Nat.mod_eq_of_lt hb,this]
theorem Ft {x y:Operand} {T U:TypeId} {k:IntKind} {a b:Nat} (hk:UK k) (hx:ev ρ x=.int k (a:Int)) (hy:ev ρ y=.int k (b:Int)) (ha:a<2^k.bits) (hb:b<2^k.bits):QT P base ⟨dst,.binOp .and T x y U,t,p,af,g⟩ ρ O (.int k ((a&&&b:Nat):Int)):=fun w _=>by
 have:=hk.wrap (jz (Nat.and_le_left (n:=a) (m:=b)) ha)
 simp[execOp,hx,hy,eqGuard,binOp,Op.intBits,Nat.mod_eq_of_lt ha,Nat.mod_eq_of_lt hb,this]
theorem Q9 {x y:Operand} {T U:TypeId} {k k':IntKind} {a b:Nat} (hk:UK k) (hx:ev ρ x=.int k (a:Int)) (hy:ev ρ y=.int k' (b:Int)) (hb:b≤k.bits) (h:a*2^b<2^k.bits):QT P base ⟨dst,.binOp .shl T x y U,t,p,af,g⟩ ρ O (.int k ((a*2^b:Nat):Int)):=fun w _=>by
 have h0: ¬(b:Int)<0:=by omega
 have h1:min (b:Int).toNat k.bits=b:=by rw[Int.toNat_natCast];exact Nat.min_eq_left hb
 have h2:k.wrap ((a:Int)*2^b)=((a*2^b:Nat):Int):=by
  have:=hk.wrap h
  rw[←this];congr 1
 simp only[execOp,hx,hy,eqGuard,binOp,Op.shift,h0,if_false,h1,h2]
 simp
theorem Jh {x y:Operand} {T U:TypeId} {k:IntKind} {a b:Nat} (hk:UK k) (hx:ev ρ x=.int k (a:Int)) (hy:ev ρ y=.int k (b:Int)) (ha:a<2^k.bits) (hb:b≤a):QT P base ⟨dst,.binOp .sub T x y U,t,p,af,g⟩ ρ O (.int k ((a-b:Nat):Int)):=by
 have h:=Pj (P:=P) (base:=base) (O:=O) (dst:=dst) (t:=t) (p:=p) (af:=af) (g:=g) (T:=T) (U:=U) hx hy
 rw[←Int.natCast_sub hb,hk.wrap (by omega)]at h
 exact h
theorem dx {x y:Operand} {T U:TypeId} {a b:Nat} (hx:ev ρ x=.int .i64 (a:Int)) (hy:ev ρ y=.int .i64 (b:Int)) (h:a+b≤9223372036854775807):QT P base ⟨dst,.binOp .add T x y U,t,p,af,g⟩ ρ O (.int .i64 ((a+b:Nat):Int)):=by
 have:=dK (P:=P) (base:=base) (O:=O) (dst:=dst) (t:=t) (p:=p) (af:=af) (g:=g) (T:=T) (U:=U) hx hy (by omega)
 rwa[←Int.natCast_add]at this
theorem sa {x y:Operand} {T U:TypeId} {a b:Nat} (hx:ev ρ x=.int .i64 (a:Int)) (hy:ev ρ y=.int .i64 (b:Int)) (h:b≤a) (ha:a≤9223372036854775807):QT P base ⟨dst,.binOp .sub T x y U,t,p,af,g⟩ ρ O (.int .i64 ((a-b:Nat):Int)):=by
 have:=fL (P:=P) (base:=base) (O:=O) (dst:=dst) (t:=t) (p:=p) (af:=af) (g:=g) (T:=T) (U:=U) hx hy (by omega)
 rwa[←Int.natCast_sub h]at this
def BI (b:Option Addr) (c lo k:Nat):Option Addr:=if c=lo then b else b.map (·.add (lo*k))
theorem Hl (b:Option Addr) (c k:Nat):BI b c 0 k=b:=by
 unfold BI
 split
 ·rfl
 ·rw[Nat.zero_mul];cases b with
  |none=>rfl
  |some a=>simp[Addr.add]
theorem Fu {x:Operand} {T E:TypeId} {b:Option Addr} {n c k gN lo hi:Nat} {z:Value} {yl yh:Option Operand} {kl kh:IntKind} (hu:P.underlying T=some (.slice E)) (qX:fK P E z k gN) (hx:ev ρ x=.slice b n c)
  (hl: ∀y,yl=some y→ev ρ y=.int kl (lo:Int)) (Hj:yl=none→lo=0) (hh: ∀y,yh=some y→ev ρ y=.int kh (hi:Int)) (hh0:yh=none→hi=n) (h1:lo≤hi) (h2:hi≤c):
  QT P base ⟨dst,.slice T x yl yh none,t,p,af,g⟩ ρ O (.slice (BI b c lo k) (hi-lo) (c-lo)):=fun w _=>by
 have e1:(lo:Int)≤(hi:Int):=by omega
 have e2:(hi:Int)≤(c:Int):=by omega
 have e0:(0:Int)≤(lo:Int):=by omega
 have e3:(0:Int)≤(hi:Int):=by omega
 unfold BI
 have ed:c-lo=0↔c=lo:=by omega
 cases yl with
 |none=>
  obtain rfl:=Hj F
  cases yh with
  |none=>
   obtain rfl:=hh0 F
   by_cases Aj:c=0
   ·simp[execOp,Instr.sliceAt,Instr.slice,hx,bH hu,bZ qX,Instr.sliceBounds,Aj]
   ·simp[execOp,Instr.sliceAt,Instr.slice,hx,bH hu,bZ qX,Instr.sliceBounds,Aj]
  |some y=>
   have:=hh y F
   by_cases Aj:c=0
   ·simp[execOp,Instr.sliceAt,Instr.slice,hx,this,bH hu,bZ qX,Instr.sliceBounds,Instr.sliceBound,asIntOf,e2,e3,Aj,h2]
    omega
   ·simp[execOp,Instr.sliceAt,Instr.slice,hx,this,bH hu,bZ qX,Instr.sliceBounds,Instr.sliceBound,asIntOf,e2,e3,Aj,h2]
 |some y'=>
  have Q_:=hl y' F
  cases yh with
  |none=>
   obtain rfl:=hh0 F
   by_cases Aj:c=lo
   ·simp[execOp,Instr.sliceAt,Instr.slice,hx,Q_,bH hu,bZ qX,Instr.sliceBounds,Instr.sliceBound,asIntOf,e1,e0,Aj,h1]
   ·simp[execOp,Instr.sliceAt,Instr.slice,hx,Q_,bH hu,bZ qX,Instr.sliceBounds,Instr.sliceBound,asIntOf,e1,e0,Aj,h1]
  |some y=>
   have:=hh y F
   by_cases Aj:c=lo
   ·simp[execOp,Instr.sliceAt,Instr.slice,hx,Q_,this,bH hu,bZ qX,Instr.sliceBounds,Instr.sliceBound,asIntOf,e1,e0,e2,e3,Aj,h1,h2]
    intro;omega
   ·simp[execOp,Instr.sliceAt,Instr.slice,hx,Q_,this,bH hu,bZ qX,Instr.sliceBounds,Instr.sliceBound,asIntOf,e1,e0,e2,e3,Aj,h1,h2]
theorem Hm {x y:Operand} {T E:TypeId} {b:Option Addr} {n c k gN hi:Nat} {z:Value} {kh:IntKind} (hu:P.underlying T=some (.slice E)) (qX:fK P E z k gN) (hx:ev ρ x=.slice b n c) (hh:ev ρ y=.int kh (hi:Int)) (h2:hi≤c):
  QT P base ⟨dst,.slice T x none (some y) none,t,p,af,g⟩ ρ O (.slice b hi c):=by
 have:=Fu (P:=P) (base:=base) (O:=O) (dst:=dst) (t:=t) (p:=p) (af:=af) (g:=g) (lo:=0) (kl:=.i64) hu qX hx (yl:=none) (yh:=some y) (fun _ h=>by cases h) (fun _=>rfl) (fun _ h=>by cases h;exact hh) (fun h=>by cases h) (bs _) h2
 rwa[Hl,Nat.sub_zero,Nat.sub_zero]at this
theorem BJ {x y:Operand} {T E:TypeId} {b:Option Addr} {n c k gN lo:Nat} {z:Value} {kl:IntKind} (hu:P.underlying T=some (.slice E)) (qX:fK P E z k gN) (hx:ev ρ x=.slice b n c) (hh:ev ρ y=.int kl (lo:Int)) (h1:lo≤n) (h2:n≤c):
  QT P base ⟨dst,.slice T x (some y) none none,t,p,af,g⟩ ρ O (.slice (BI b c lo k) (n-lo) (c-lo)):=
 Fu (kh:=.i64) hu qX hx (fun _ h=>by cases h;exact hh) (fun h=>by cases h) (fun _ h=>by cases h) (fun _=>rfl) h1 h2
end
section
variable {P:Program} {r:Option Nat} {base:World} {n:Nat} {ρ:Env} {O:List Item} {K:Env→List Item→Prop} {d:Nat} {t:TypeId} {p:String} {af:Array Edge} {g:Option (Nat×Bool)}
end
theorem dM {P:Program} {r:Option Nat} {base:World} {n:Nat} {Q:kF} {ρ:Env} {O:List Item} {c:Code} {α:Type} (I:α→Env→List Item→Prop) (μ:α→Nat) (s:α) (h0:I s ρ O)
  (h: ∀s ρ O,I s ρ O→T P r base n c (I5 (fun gR O'=> ∃s',μ s'<μ s∧ ∃O2,Sub O2 O'∧I s' gR O2) Q) ρ O):T P r base n (.loop c) Q ρ O:=
 et (fun s ρ O=> ∃O2,Sub O2 O∧I s ρ O2) μ s ⟨O,cj (aZ _),h0⟩ (fun s ρ O ⟨O2,hs,hi⟩=>dv hs (h s ρ O2 hi))
theorem Ak {P:Program} {T E:TypeId} {d:TypeDesc} {b:Nat} {v:Value} {cs:List Value} {fr:Nat×Nat} {w:World} (hu:P.underlying T=some d) (ha:o4 d=false) (hw:w.heap[b]? =some (.cells (v::cs).toArray E fr)):
  (loadVar T ⟨b,0,none⟩).run P w=.ok v w:=by
 have hc:w.cell? ⟨b,0,none⟩=some v:=by unfold World.cell?;simp[hw]
 simp[loadVar,jg hu,ha,hc]
section
variable {P:Program} {base:World} {ρ:Env} {O:List Item} {dst:Option Nat} {t:TypeId} {p:String} {af:Array Edge} {g:Option (Nat×Bool)}
end
end Go.Lx

namespace Go.Lx
open Go.RowKit
section
variable {P:Program} {r:Option Nat} {base:World} {n:Nat} {ρ:Env} {O:List Item} {K:Env→List Item→Prop} {d:Nat} {t:TypeId} {p:String} {af:Array Edge} {g:Option (Nat×Bool)}
end
end Go.Lx

namespace Go.Lx
open Go.RowKit
theorem Fv {P:Program} {base:World} {ρ:Env} {O:List Item} {dst:Option Nat} {t:TypeId} {p:String} {af:Array Edge} {g:Option (Nat×Bool)} {x:Operand} {S:TypeId} {fs:Array Field} {i:Nat} {f:Field} {cs:List Value} {d:TypeDesc} {v:Value} (hu:P.underlying S=some (.struct fs)) (hf:fs[i]? =some f) (hd:P.underlying f.type=some d) (ha:o4 d=false) (hx:ev ρ x=.agg cs.toArray) (hv:cs[f.offset]? =some v):
  QT P base ⟨dst,.field S x i,t,p,af,g⟩ ρ O v:=fun w _=>by
 simp[execOp,hx,Instr.field,bH hu,hf,part,jg hd,ha,asAgg,hv]
section
variable {X:PX} {P:Program} {r:Option Nat} {base:World} {n:Nat} {ops:Array Oper} {S S2:List Item} {tail dq:List Nat} {K:Env→List Item→Prop} {ρ:Env} {O:List Item}
theorem DY {gu:Nat} {listed:Array Bool} (i:Nat) {o:Oper} {j0 tj:Nat} {want:Bool} (hi:ops[i]? =some o) (hg:o.guard=some (j0,want)) (Ra:(ops[j0]?).bind (·.dst)=some tj) (hw:ρ tj=.bool want) (hr:Region.ready .any ops listed=[i])
  (h:LT P r base n o ρ O (fun gR O'=>(i∈tail∨Sub S O')∧(i∈dq∨Sub S2 O')∧RO X P r base n ops S tail S2 dq gu (listed.setIfInBounds i true) K gR O')):RO X P r base n ops S tail S2 dq (gu+1) listed K ρ O:=by
 intro Q a w M D hq hp ha hI n3 hS
 refine⟨fun h0=>(by rw[hr]at h0;cases h0),fun j hj=>?_⟩
 rw[hr]at hj
 obtain rfl:j=i:=by simpa using hj
 have wP:j∈Region.ready .any ops listed:=by rw[hr];simp
 have gn:j<listed.size:=by
  have:=(mem_ready.1 wP).1
  rcases Nat.lt_or_ge j listed.size with h'|h'
  ·exact h'
  ·simp[Array.getElem?_eq_none h']at this
 have hy:=jA (ops:=ops) ha Ra
 rw[hw]at hy
 have p6:Region.wanted o (yielded ops a.tmps)=true:=by unfold Region.wanted;rw[hg];simp[hy,Mq]
 unfold wpOpIn
 simp only[hi]
 rw[aR p6]
 refine h a w _ _ ha hI _ _ fun a' gR O' w' h1 h2 h3=>?_
 have rC: ∀(tl:List Nat) (Z:List Item),(j∈tl∨Sub Z O')→(tl.any fun b=>(listed.setIfInBounds j true).getD b false)=true∨Inv base Z w':=fun tl Z h3=>by
  rcases h3 with h4|h4
  ·refine .inl (List.any_eq_true.2 ⟨j,h4,?_⟩)
   simp[gn]
  ·exact .inr (h2.left.j_ h4)
 have p8:iR base S tail S2 dq (listed.setIfInBounds j true) w':=⟨h2.mq,rC _ _ h3.1,rC _ _ h3.2.1⟩
 exact⟨p8,h3.2.2 Q a' w' M D hq hp h1 h2 (iZ n3 wP) p8⟩
theorem sd {l:List (Nat×Nat)} {i:Nat} {o:Oper} {j0 tj:Nat} {want:Bool} (hi:ops[i]? =some o) (hg:o.guard=some (j0,want)) (Ra:(ops[j0]?).bind (·.dst)=some tj) (hw:ρ tj=.bool want)
  (h:LT P r base n o ρ O (fun gR O'=>DO X P r base n ops S tail S2 dq l K gR O')):DO X P r base n ops S tail S2 dq ((i,2)::l) K ρ O:=fun hs lx hl listed hb=>by
 simp only[jC,aM,beq_iff_eq]at hb
 refine DY i hi hg Ra hw hb.1 ?_
 intro a w M ds ha hI next Qx fm
 exact h a w M ds ha hI next Qx fun a' gR O' w' h1 h2 h3=>fm a' gR O' w' h1 h2 ⟨.inl ((hl (i,2) (by simp)).1.1 F),.inl ((hl (i,2) (by simp)).2.1 (.inl F)),h3 hs lx (fun q hq=>hl q (List.mem_cons_of_mem _ hq)) _ hb.2⟩
end
end Go.Lx

namespace Go.Lx
open Go.RowKit
section
variable {X:PX} {P:Program} {r:Option Nat} {base:World} {n:Nat} {ops:Array Oper} {S S2:List Item} {tail dq:List Nat} {K:Env→List Item→Prop} {ρ:Env} {O:List Item}
theorem Al {gu:Nat} {listed:Array Bool} (i:Nat) {o:Oper} {d j0 tj:Nat} {want:Bool} (hi:ops[i]? =some o) (hg:o.guard=some (j0,want)) (hd:o.dst=some d) (Ra:(ops[j0]?).bind (·.dst)=some tj) (hw:(Mq (ρ tj)==some want)=false) (hn:Nat.blt d n=true) (hr:Region.ready .any ops listed=[i])
  (h:RO X P r base n ops S tail S2 dq gu (listed.setIfInBounds i true) K (oX ρ d undef) O):RO X P r base n ops S tail S2 dq (gu+1) listed K ρ O:=by
 intro Q a w M D hq hp ha hI n3 hS
 refine⟨fun h0=>(by rw[hr]at h0;cases h0),fun j hj=>?_⟩
 rw[hr]at hj
 obtain rfl:j=i:=by simpa using hj
 have wP:j∈Region.ready .any ops listed:=by rw[hr];simp
 have hy:=jA (ops:=ops) ha Ra
 have p6:Region.wanted o (yielded ops a.tmps)=false:=by unfold Region.wanted;rw[hg];simp only[hy];exact hw
 unfold wpOpIn
 simp only[hi]
 rw[ay (by rw[p6];decide)]
 have p8:iR base S tail S2 dq (listed.setIfInBounds j true) w:=⟨hS.mq,hS.one.imp Af id,hS.two.imp Af id⟩
 refine⟨fun _ _=>trivial,p8,?_⟩
 rw[hd]
 exact h Q _ w M D hq hp (ha.put hn undef) hI (iZ n3 wP) p8
theorem Am {l:List (Nat×Nat)} {i mo:Nat} {o:Oper} {d j0 tj:Nat} {want:Bool} (hmo:mo=1∨mo=2) (hi:ops[i]? =some o) (hg:o.guard=some (j0,want)) (hd:o.dst=some d) (Ra:(ops[j0]?).bind (·.dst)=some tj) (hw:(Mq (ρ tj)==some want)=false)
  (h:DO X P r base n ops S tail S2 dq l K (oX ρ d undef) O) (hn:Nat.blt d n=true:=by rfl):DO X P r base n ops S tail S2 dq ((i,mo)::l) K ρ O:=fun hs lx hl listed hb=>by
 have yz:(Region.ready .any ops listed== [i])=true∧jC ops tail dq l (listed.setIfInBounds i true)=true:=by
  rcases hmo with rfl|rfl<;>simpa only[jC,aM]using hb
 exact Al i hi hg hd Ra hw hn (by simpa using yz.1) (h hs lx (fun q hq=>hl q (List.mem_cons_of_mem _ hq)) _ yz.2)
end
theorem Sub.k {A B:List Item} {a:Item} (h:Sub A B):Sub (a::A) (a::B):=by
 obtain⟨l,h1,h2⟩:=h;exact⟨a::l,h1.cons a,.cons_cons a h2⟩
theorem Sub.d {A B:List Item} {a:Item} (h:Sub A B):Sub A (a::B):=by
 obtain⟨l,h1,h2⟩:=h;exact⟨l,h1,.cons a h2⟩
theorem Sub.z {B:List Item}:Sub [] B:=cj (cm _)
theorem Sub.rf {B:List Item}:Sub B B:=cj (aZ _)
theorem gK (A B S:List Item):Sub ((A++B)++S) ((A++S)++B):=by
 refine⟨(A++S)++B,?_,aZ _⟩
 rw[aI,aI]
 exact List.Perm.append_left A List.perm_append_comm
theorem fE (A B S R:List Item):Sub ((A++B)++(S++R)) ((A++S)++(B++R)):=by
 refine⟨(A++S)++(B++R),?_,aZ _⟩
 have h:(B++(S++R)).Perm (S++(B++R)):=by
  rw[←aI,←aI]
  exact List.perm_append_comm.append_right R
 rw[aI,aI]
 exact List.Perm.append_left A h
theorem Ji {l B:List Item} (h:l.Sublist B): ∃D,(l++D).Perm B:=by
 induction h with
 |slnil=>exact⟨[],List.Perm.refl _⟩
 |cons a _ ih=>obtain⟨D,hD⟩:=ih;exact⟨a::D,List.perm_middle.trans (hD.cons a)⟩
 |cons_cons a _ ih=>obtain⟨D,hD⟩:=ih;exact⟨D,hD.cons a⟩
theorem Sub.perm {A B:List Item} (h:Sub A B): ∃D,(A++D).Perm B:=by
 obtain⟨l,p,s⟩:=h
 obtain⟨D,hD⟩:=Ji s
 exact⟨D,(p.append_right D).trans hD⟩
end Go.Lx

namespace Go.Lx
open Go.RowKit
theorem Sub.eQ {xs:List Item} {x:Item} (P Q:List Item) (h:Sub xs (P++Q)):Sub (x::xs) (P++x::Q):=by
 obtain⟨D,p⟩:=h.perm
 refine nN (D:=D) ?_
 exact(p.cons x).trans List.perm_middle.symm
example (a b c d e:Item) (R:List Item):Sub ([c,a,e]++R) ([a,b,c,d,e]++R):=by exact Sub.eQ [a,b] _ (.k (.d (.d (.k .rf))))
end Go.Lx

namespace Go.Lx
open Go.RowKit
theorem mS {A B:List Item} (N:List Item) (h:Sub A B):Sub A (N++B):=by
 obtain⟨l,hp,hs⟩:=h
 exact⟨l,hp,hs.trans (List.sublist_append_right _ _)⟩
end Go.Lx

namespace Go.Lx
open Go.RowKit
theorem iA {P:Program} {base:World} {ρ:Env} {O:List Item} {fn:Func} {R:Value→List Item→Prop} {a i c j:Nat} {T U E E':TypeId} {d d':TypeDesc} {z u:Value} {s gN b b':Nat} {cs By:List Value} {fr fr':Nat×Nat} (hr:fn.results= #[.cell a T,.cell c U]) (hu:P.underlying T=some d) (ha:o4 d=true) (hi:fK P T z s gN) (IJ:P.underlying U=some d') (DZ:o4 d'=false)
  (hp:ρ a=.pointer (some ⟨b,0,none⟩)) (TX:ρ c=.pointer (some ⟨b',0,none⟩)) (hO:O[i]? =some (dR b (.cells cs.toArray E fr))) (hO':O[j]? =some (dR b' (.cells (u::By).toArray E' fr'))) (hl:cs.length=s)
  (h:R (.tuple #[.agg cs.toArray,u]) O):ru P base fn ρ O R:=
 ⟨⟨_,O,cj (aZ _),h,fun w tmps hI ht=>by
  have h1:=p_ (P:=P) hu ha hi hl (hI.uZ hO)
  have h2:=Ak (P:=P) IJ DZ (hI.uZ hO')
  have ht1:=ht a
  have TY:=ht c
  simp only[dp]at ht1 TY
  simp[results,hr,ht1,TY,hp,TX,asAddr,h1,h2]⟩⟩
theorem bf {P:Program} {base:World} {ρ:Env} {O:List Item} {dst:Option Nat} {t:TypeId} {p:String} {af:Array Edge} {g:Option (Nat×Bool)} {x:Operand} {a:Addr} (h:ev ρ x=.pointer (some a)):QT P base ⟨dst,.nilCheck x,t,p,af,g⟩ ρ O (.pointer (some a)):=fun w _=>by simp[execOp,h]
end Go.Lx

namespace Go.Lx
open Go.RowKit
section
variable {P:Program} {base:World} {ρ:Env} {O:List Item} {dst:Option Nat} {t:TypeId} {p:String} {af:Array Edge} {g:Option (Nat×Bool)}
theorem sW {T E:TypeId} {n:Nat} {parts:List (Nat×Operand)} {z ze:Value} {s gN sz bz:Nat} {cs:List Value} (hu:P.underlying T=some (.array n E)) (he:fK P E ze s gN) (hi:fK P T z sz bz) (hf:Instr.fill (fun i=>some (i*s,s)) z.cells (parts.map fun q=>(q.1,ev ρ q.2))=some cs.toArray):
  QT P base ⟨dst,.build T parts.toArray,t,p,af,g⟩ ρ O (.agg cs.toArray):=fun w _=>by
 simp only[execOp,Instr.build,Sem.run_bind,gJ hi,Result.andThen_ok,bH hu,bZ he]
 simp[hf]
end
def Po (P:Program) (r:Option Nat) (base:World) (n:Nat) (c:Code) (Q:kF):Nat→Env→List Item→Prop
 |0,_,_=>False
 |m+1,ρ,O=>T P r base n c (I5 (Po P r base n c Q m) Q) ρ O
theorem o9 {P:Program} {r:Option Nat} {base:World} {n:Nat} {c:Code} {Q:kF} {ρ:Env} {O:List Item} (m:Nat) (h:Po P r base n c Q m ρ O):T P r base n (.loop c) Q ρ O:=
 et (Po P r base n c Q) (fun m=>m) m h fun s ρ O h=>by
  cases s with
  |zero=>exact h.elim
  |succ s=>exact T.mono (show T P r base n c (I5 (Po P r base n c Q s) Q) ρ O from h) (fun e ρ O h=>by cases e<;>first|exact⟨s,Nat.lt_succ_self s,h⟩|exact h)
theorem T.round {P:Program} {r:Option Nat} {base:World} {n m:Nat} {c:Code} {Q:kF} {ρ:Env} {O:List Item} (h:T P r base n c (I5 (Po P r base n c Q m) Q) ρ O):Po P r base n c Q (m+1) ρ O:=h
end Go.Lx

namespace Go.Lx
open Go.RowKit
structure Mk (Wt:Type) where
 i:Nat
 d:Nat
 val:Wt→Value
 kL:Wt→List Item
section
variable {X:PX} {P:Program} {r:Option Nat} {base:World} {n:Nat} {ρ:Env} {O S:List Item} {tail:List Nat} {ops:Array Oper} {K:Env→List Item→Prop} {Wt:Type}
theorem Sub.trans {A B C:List Item} (h:Sub A B) (h2:Sub B C):Sub A C:=by
 obtain⟨l1,p1,s1⟩:=h
 obtain⟨l2,p2,s2⟩:=h2
 obtain⟨l3,p3,s3⟩:=List.exists_perm_sublist s1 p2
 exact⟨l3,p1.trans p3.symm,s3.trans s2⟩
theorem getD_lt {l:Array Bool} {j:Nat} (h:j<l.size) (a b:Bool):l.getD j a=l.getD j b:=by simp[h]
def left (listed:Array Bool) (mk:List (Mk Wt)):Nat:=(mk.filter fun q=>!listed.getD q.i false).length
end
end Go.Lx

namespace Go.Lx
open Go.RowKit
def sX (φ:Prop) (L:List Item):Item where
 blocks:=L.flatMap Item.blocks
 P w:=φ∧ ∀it∈L,it.P w
 loc w w' h:=fun hp=>⟨hp.1,fun it hi=>it.loc w w' (fun b hb=>h b (List.mem_flatMap.2 ⟨it,hi,hb⟩)) (hp.2 it hi)⟩
theorem xe {base w:World} {φ:Prop} {L M:List Item} (UY:φ) (h:Inv base (L++M) w):Inv base (sX φ L::M) w:=
 ⟨h.below,fun it hi=>(List.mem_cons.1 hi).elim (fun e=>e▸⟨UY,fun x hx=>h.holds x (aQ _ hx)⟩) fun hm=>h.holds it (am _ hm),
  fun it hi b hb=>(List.mem_cons.1 hi).elim (fun e=>by
   subst e
   obtain⟨x,hx,hbx⟩:=List.mem_flatMap.1 hb
   exact h.fresh x (aQ _ hx) b hbx) fun hm=>h.fresh it (am _ hm) b hb,
  by have:=h.nodup;rwa[List.flatMap_append]at this⟩
theorem Ap {base w:World} {φ:Prop} {L M:List Item} (h:Inv base (sX φ L::M) w):φ∧Inv base (L++M) w:=by
 have h0:=h.holds (sX φ L) List.mem_cons_self
 refine⟨h0.1,h.below,fun it hi=>(List.mem_append.1 hi).elim (h0.2 it) fun hm=>h.holds it (List.mem_cons_of_mem _ hm),fun it hi b hb=>(List.mem_append.1 hi).elim (fun hm=>h.fresh (sX φ L) List.mem_cons_self b (List.mem_flatMap.2 ⟨it,hm,hb⟩)) fun hm=>h.fresh it (List.mem_cons_of_mem _ hm) b hb,?_⟩
 have:=h.nodup
 rwa[List.flatMap_append]
section
variable {P:Program} {r:Option Nat} {base:World} {n:Nat} {c:Code} {Q:kF} {ρ:Env} {φ:Prop} {L M:List Item} {f:FuncId} {args:List Value}
theorem sY (UY:φ) (h:T P r base n c Q ρ (sX φ L::M)):T P r base n c Q ρ (L++M):=fun a w N D hM ha hi=>
 h a w N D hM ha (by rw[aI]at hi;exact xe UY hi)
theorem D3 (h:φ→T P r base n c Q ρ (L++M)):T P r base n c Q ρ (sX φ L::M):=fun a w N D hM ha hi=>by
 have hu:=Ap (M:=M++(mI D++N)) hi
 exact h hu.1 a w N D hM ha (by rw[aI];exact hu.2)
theorem cd.O8 {O:List Item} {R R':Value→List Item→Prop} (h:cd P base f args O R) (hr: ∀v O',R v O'→ ∃φ L M,φ∧O'=L++M∧R' v (sX φ L::M)):cd P base f args O R':=fun w N hI=>
 (h w N hI).mono fun _ _ ⟨v,O',h1,h2,h3⟩=>by
  obtain⟨φ,L,M,UY,rfl,hR⟩:=hr v O' h3
  exact⟨v,sX φ L::M,h1,xe (M:=M++N) UY (by rw[←aI];exact h2),hR⟩
end
structure DK where
 nb:Option Addr
 nc:Nat
 fb:Option Addr
 fc:Nat
 qs:List Rec
abbrev dC (d:cM) (k:DK):List Value:=eG d k.nb k.nc k.fb k.fc
abbrev dV (d:cM) (k:DK):Value:=.agg (dC d k).toArray
abbrev At (w:World) (d:cM) (k:DK):Prop:=ii w d k.nb (dl k.qs) k.fb
def dI (II Bo I:TypeId) (d:cM) (k:DK):Item:=sX (nums k.qs=d.next) ([aq k.nb k.nc II 1 (dl k.qs),aq k.fb k.fc Bo 1 (cE d.aV)]++ce I k.qs)
theorem Inv.at {base w:World} {O:List Item} {II Bo I:TypeId} {d:cM} {k:DK} (hI:Inv base O w) (h:dI II Bo I d k∈O):At w d k:=by
 have h0:=hI.holds _ h
 have g: ∀it∈[aq k.nb k.nc II 1 (dl k.qs),aq k.fb k.fc Bo 1 (cE d.aV)]++ce I k.qs,it.P w:=h0.2
 refine⟨rowP.sl (g (aq k.nb k.nc II 1 (dl k.qs)) (by simp)),?_,rowP.sl (g (aq k.fb k.fc Bo 1 (cE d.aV)) (by simp))⟩
 rw[←h0.1]
 refine⟨by simp,fun i x hx=>?_⟩
 rw[bq]at hx
 obtain⟨q,hq,rfl⟩:=Option.map_eq_some_iff.1 hx
 refine⟨q.b,q.c,by rw[bq,hq];rfl,?_⟩
 have:(Rec.sM I q).P w:=g _ (am _ (List.mem_map_of_mem (bS hq)))
 exact rowP.sl this
theorem Bv {w:World}: ∀ {vs:List Value} {rs:List (List Int)},nZ w vs rs→ ∃qs:List Rec,dl qs=vs∧nums qs=rs
 | [],[],_=>⟨[],F,F⟩
 | [],_::_,h=>absurd h.1 (by simp)
 |_::_,[],h=>absurd h.1 (by simp)
 |v::vs,x::rs,h=>by
  obtain⟨b,c,h1,h2⟩:=h.get (i:=0) (by simp)
  obtain⟨qs,e1,e2⟩:=Bv (vs:=vs) (rs:=rs) ⟨by simpa using h.1,fun i y hy=>by simpa using h.2 (i+1) y (by simpa using hy)⟩
  refine⟨⟨b,c,x⟩::qs,?_,by simp[e2]⟩
  simp only[cD,e1,Rec.val]
  simp at h1
  rw[h1]
theorem cd.dk {P:Program} {base:World} {f:FuncId} {args:List Value} {O:List Item} {II Bo I:TypeId} {D:cM} {g:Value→Value} (h:cd P base f args O fun v N=> ∃BN BO oN oO qs,v=g (.agg (eG D BN BO oN oO).toArray)∧N=[aq BN BO II 1 (dl qs),aq oN oO Bo 1 (cE D.aV)]++ce I qs∧nums qs=D.next):
  cd P base f args O fun v N=> ∃k:DK,v=g (dV D k)∧N=[dI II Bo I D k]:=
 h.O8 fun v O' hR=>by
  obtain⟨nb,nc,fb,fc,qs,rfl,rfl,hq⟩:=hR
  exact⟨nums qs=D.next,_,[],hq,(cT _).symm,⟨nb,nc,fb,fc,qs⟩,F,F⟩
theorem Inv.oP {base w:World} {O:List Item} {d:cM} {k:DK} (hI:Inv base O w) (h:At base d k):At w d k:=hI.BF h
end Go.Lx

namespace Go.Lx
open Go.RowKit
section
variable {P:Program} {base:World} {ρ:Env} {O:List Item} {dst:Option Nat} {t:TypeId} {p:String} {af:Array Edge} {g:Option (Nat×Bool)}
theorem js {x y:Operand} {T E:TypeId} {b o n i:Nat} {k:IntKind} {z:Value} {s gN:Nat} (hu:P.underlying T=some (.array n E)) (hi:fK P E z s gN) (hx:ev ρ x=.pointer (some ⟨b,o,none⟩)) (hy:ev ρ y=.int k (i:Int)) (gn:i<n):
  QT P base ⟨dst,.indexAddr T x y,t,p,af,g⟩ ρ O (.pointer (some ⟨b,o+i*s,none⟩)):=fun w _=>by
 have h2:(i:Int)<(n:Int):=by omega
 simp[execOp,hx,hy,Instr.indexAt,asIntOf,bH hu,gn,bZ hi,Instr.sureAddr,Addr.add]
 try (intro h;rcases h with h|h<;>simp[h])
end
end Go.Lx

namespace Go.Lx
open Go.RowKit
theorem BL {e:Edge} (hb:Region.binds .any e=true): ∀ {l:List Edge},e∈l→(sR l).testBit e.on=true
 |a::l,h=>by
  rw[sR,Nat.testBit_or,Bool.or_eq_true]
  rcases List.mem_cons.1 h with rfl|h
  ·exact .inl (by rw[aR hb,Nat.one_shiftLeft,Nat.testBit_two_pow];simp)
  ·exact .inr (BL hb h)
def An (ops:Array Oper) (d j:Nat):Bool:=!d.testBit j&&Nat.beq (mn ops j&&&d) (mn ops j)
def Fw (ops:Array Oper) (d i:Nat):Bool:=match ops[i]? with
 |none=>false
 |some oi=>(List.range ops.size).all fun j=>Nat.beq j i||d.testBit j||(mn ops j).testBit i||match ops[j]? with
  |some oj=>oi.apart ops oj
  |none=>true
def rF (ops:Array Oper) (tail dq:List Nat):List (Nat×Nat)→Nat→Bool
 | [],d=>(List.range ops.size).all fun j=>!An ops d j
 |(i,0)::l,d=>(p7 ops tail i&&Fw ops d i&&Nat.blt i ops.size&&An ops d i)&&rF ops tail dq l (d|||1<<<i)
 |(i,3)::l,d=>(p7 ops dq i&&Fw ops d i&&Nat.blt i ops.size&&An ops d i)&&rF ops tail dq l (d|||1<<<i)
 |(i,_)::l,d=>(Nat.blt i ops.size&&An ops d i&&(List.range ops.size).all fun j=>Nat.beq j i||!An ops d j)&&rF ops tail dq l (d|||1<<<i)
def pD (ops:Array Oper) (listed:Array Bool) (d:Nat):Prop:=listed.size=ops.size∧ ∀k,listed.getD k false=d.testBit k
theorem pD.start (ops:Array Oper):pD ops (Array.replicate ops.size false) 0:=⟨by simp,fun k=>by
 rw[Nat.zero_testBit,dp,Array.getElem?_replicate]
 split<;>rfl⟩
theorem pD.set {ops:Array Oper} {listed:Array Bool} {d i:Nat} (h:pD ops listed d) (hi:i<ops.size):pD ops (listed.setIfInBounds i true) (d|||1<<<i):=⟨by simpa using h.1,fun k=>by
 rw[Nat.testBit_or,Nat.one_shiftLeft,Nat.testBit_two_pow,←h.2 k]
 by_cases e:i=k
 ·subst e
  have:i<listed.size:=by rw[h.1];exact hi
  simp[this]
 ·rw[getD_set_ne false e,ak e,Bool.or_false]⟩
theorem pD.ready {ops:Array Oper} {listed:Array Bool} {d j:Nat} (h:pD ops listed d) (hj:j<ops.size):j∈Region.ready .any ops listed↔An ops d j=true:=by
 have e1:listed.getD j true=d.testBit j:=by rw[←h.2 j];exact getD_lt (by rw[h.1];exact hj) _ _
 have ho:ops[j]? =some ops[j]:=Array.getElem?_eq_getElem hj
 have hm:mn ops j=sR ops[j].after.toList:=by unfold mn;rw[ho]
 rw[mem_ready,e1]
 unfold An
 rw[aM,Bool.not_eq_true',Nat.beq_eq,hm]
 refine and_congr_right fun _=>?_
 constructor
 ·rintro⟨o,sH,lQ⟩
  rw[ho]at sH;cases sH
  refine Nat.eq_of_testBit_eq fun k=>?_
  rw[Nat.testBit_and]
  cases hk:(sR ops[j].after.toList).testBit k with
  |false=>rfl
  |true=>
   obtain⟨e,he,hb,rfl⟩:=ue hk
   have:=lQ e (by simpa using he) hb
   rw[h.2]at this
   rw[this];rfl
 ·intro he
  refine⟨_,ho,fun e vG hb=>?_⟩
  have hk:=BL hb (l:=ops[j].after.toList) (by simpa using vG)
  rw[h.2]
  rw[←he,Nat.testBit_and,aM]at hk
  exact hk.2
theorem xa {ops:Array Oper} {listed:Array Bool} {j:Nat} (h:j∈Region.ready .any ops listed):j<ops.size:=by
 obtain⟨_,o,ho,_⟩:=mem_ready.1 h
 exact(Array.getElem?_eq_some_iff.1 ho).1
theorem Hp {l:List Nat} {i:Nat} (hn:l.Nodup) (h: ∀j,j∈l↔j=i):l=[i]:=by
 cases l with
 |nil=>exact absurd ((h i).2 F) (by simp)
 |cons a l=>
  obtain rfl:a=i:=(h a).1 (by simp)
  have h1:=(List.nodup_cons.1 hn).1
  cases l with
  |nil=>rfl
  |cons b l=>
   have:b=a:=(h b).1 (by simp)
   subst this
   exact absurd (by simp) h1
theorem BM (ops:Array Oper) (listed:Array Bool):(Region.ready .any ops listed).Nodup:=by
 unfold Region.ready
 exact List.nodup_range.filter _
theorem Fx {ops:Array Oper} {listed:Array Bool} {d i:Nat} (h:pD ops listed d) (hf:Fw ops d i=true):Region.free .any ops listed i=true:=by
 unfold Fw at hf
 unfold Region.free
 cases ho:ops[i]? with
 |none=>rw[ho]at hf;cases hf
 |some oi=>
  rw[ho]at hf
  simp only at hf⊢
  rw[fy]at hf⊢
  intro j hj
  have UX:j<ops.size:=List.mem_range.1 hj
  have h1:=hf j hj
  have e1:listed.getD j true=d.testBit j:=by rw[←h.2 j];exact getD_lt (by rw[h.1];exact UX) _ _
  have QV:ops[j]? =some ops[j]:=Array.getElem?_eq_getElem UX
  rw[QV]at h1⊢
  simp only[Bool.or_eq_true]at h1⊢
  rw[e1]
  rcases h1 with((h1|h1)|h1)|h1
  ·exact .inl (.inl (by simpa using h1))
  ·exact .inl (.inr h1)
  ·obtain⟨o,sH,e,he,hb,hon⟩:=nz h1
   rw[QV]at sH;cases sH
   exact .inr (.inl (Array.any_eq_true'.2 ⟨e,he,by rw[hb,hon];simp⟩))
  ·exact .inr (.inr h1)
theorem Ao {ops:Array Oper} {tail dq:List Nat} {i:Nat} {l:List (Nat×Nat)} {listed:Array Bool} {d:Nat} (h:pD ops listed d) (ih: ∀ {listed:Array Bool} {d:Nat},pD ops listed d→rF ops tail dq l d=true→jC ops tail dq l listed=true) (hw:((Nat.blt i ops.size&&An ops d i&&(List.range ops.size).all fun j=>Nat.beq j i||!An ops d j)&&rF ops tail dq l (d|||1<<<i))=true):((Region.ready .any ops listed== [i])&&jC ops tail dq l (listed.setIfInBounds i true))=true:=by
 simp only[aM,Nat.blt_eq,fy,Bool.or_eq_true,Nat.beq_eq,Bool.not_eq_true']at hw
 obtain⟨⟨⟨h1,h2⟩,h3⟩,h4⟩:=hw
 rw[aM]
 refine⟨?_,ih (h.set h1) h4⟩
 rw[beq_iff_eq]
 refine Hp (BM _ _) fun j=>⟨fun hj=>?_,fun e=>e▸(h.ready h1).2 h2⟩
 have UX:=xa hj
 rcases h3 j (List.mem_range.2 UX)with e|e
 ·exact e
 ·rw[(h.ready UX).1 hj]at e;cases e
theorem n_ {ops:Array Oper} {tail dq:List Nat}: ∀ {l:List (Nat×Nat)} {listed:Array Bool} {d:Nat},pD ops listed d→rF ops tail dq l d=true→jC ops tail dq l listed=true
 | [],listed,d,h,hw=>by
  simp only[rF,fy]at hw
  show(Region.ready .any ops listed).isEmpty=true
  cases hr:Region.ready .any ops listed with
  |nil=>rfl
  |cons j r=>
   have hj:j∈Region.ready .any ops listed:=by rw[hr];simp
   have h1:=hw j (List.mem_range.2 (xa hj))
   rw[(h.ready (xa hj)).1 hj]at h1;cases h1
 |(i,0)::l,listed,d,h,hw=>by
  simp only[rF,aM,Nat.blt_eq]at hw
  obtain⟨⟨⟨⟨h1,h2⟩,h3⟩,h4⟩,h5⟩:=hw
  simp only[jC,aM]
  exact⟨⟨⟨h1,Fx h h2⟩,by simpa using(h.ready h3).2 h4⟩,n_ (h.set h3) h5⟩
 |(i,3)::l,listed,d,h,hw=>by
  simp only[rF,aM,Nat.blt_eq]at hw
  obtain⟨⟨⟨⟨h1,h2⟩,h3⟩,h4⟩,h5⟩:=hw
  simp only[jC,aM]
  exact⟨⟨⟨h1,Fx h h2⟩,by simpa using(h.ready h3).2 h4⟩,n_ (h.set h3) h5⟩
 |(i,1)::l,listed,d,h,hw=>Ao h n_ hw
 |(i,2)::l,listed,d,h,hw=>Ao h n_ hw
 |(i,m+4)::l,listed,d,h,hw=>Ao h n_ hw
def Pp (ops:Array Oper) (l:List (Nat×Nat)):Bool:=(Region.noSelect ops&&jW ops&&Nat.beq l.length ops.size&&(l.all fun q=>(q.2==2||!(nM l).contains q.1)&&(q.2==2||q.2==4||!(lL l).contains q.1)))&&rF ops (nM l) (lL l) l 0
theorem w_ {ops:Array Oper} {l:List (Nat×Nat)} (h:Pp ops l=true):wV ops l=true:=by
 simp only[Pp,aM,Nat.beq_eq]at h
 obtain⟨⟨⟨⟨h1,h2⟩,h3⟩,h4⟩,h5⟩:=h
 simp only[wV,aM]
 exact⟨⟨⟨⟨h1,h2⟩,by rw[h3];simp⟩,h4⟩,n_ (pD.start ops) h5⟩
end Go.Lx

namespace Go.Proofs.YtgdbfideeeegmaaGreatDoor
open Go.Lx Go.RowKit _root_.Go.Proofs.Tryz
theorem mixed:Tryz.prog.follows .mixedOrders=true:=by kernel_rfl
theorem bl:fK Tryz.prog 3 (.int .i64 0) 1 8:=by unfold fK;kernel_rfl
theorem fw:fK Tryz.prog 4 (.bool false) 1 1:=by unfold fK;kernel_rfl
theorem dF:fK Tryz.prog 5 (.int .u8 0) 1 1:=by unfold fK;kernel_rfl
theorem Ea:fK Tryz.prog 9 (.string ByteArray.empty) 1 16:=by unfold fK;kernel_rfl
theorem fa:fK Tryz.prog 22 ((.slice none 0 0)) 1 24:=by unfold fK;kernel_rfl
theorem dy:fK Tryz.prog 23 ((.slice none 0 0)) 1 24:=by unfold fK;kernel_rfl
theorem bK:fK Tryz.prog 25 ((.agg #[(.int .i64 0),(.int .i64 0),(.slice none 0 0),(.slice none 0 0)])) 4 64:=by unfold fK;kernel_rfl
theorem iV:fK Tryz.prog 27 (.int .i64 0) 1 8:=by unfold fK;kernel_rfl
theorem g_:fK Tryz.prog 32 ((.slice none 0 0)) 1 24:=by unfold fK;kernel_rfl
theorem cU:fK Tryz.prog 56 ((.slice none 0 0)) 1 24:=by unfold fK;kernel_rfl
theorem nE:fK Tryz.prog 67 (.int .u8 0) 1 1:=by unfold fK;kernel_rfl
theorem de:fK Tryz.prog 69 ((.agg #[(.int .u8 0),(.slice none 0 0)])) 2 32:=by unfold fK;kernel_rfl
theorem cK:fK Tryz.prog 72 ((.agg #[(.int .u8 0),(.int .u8 0),(.int .u8 0),(.int .i64 0),(.int .i64 0)])) 5 24:=by unfold fK;kernel_rfl
theorem oq:fK Tryz.prog 75 ((.slice none 0 0)) 1 24:=by unfold fK;kernel_rfl
theorem oC:fK Tryz.prog 79 (.pointer none) 1 8:=by unfold fK;kernel_rfl
theorem Xb:fK Tryz.prog 81 ((.agg #[(.slice none 0 0),(.int .i64 0),(.int .i64 0)])) 3 40:=by unfold fK;kernel_rfl
theorem lr:fK Tryz.prog 96 ((.agg #[(.int .i64 0),(.string ByteArray.empty),(.string ByteArray.empty),(.string ByteArray.empty)])) 4 56:=by unfold fK;kernel_rfl
theorem gy:fK Tryz.prog 112 ((.slice none 0 0)) 1 24:=by unfold fK;kernel_rfl
theorem SQ:fK Tryz.prog 114 ((.agg #[(.pointer none),(.slice none 0 0),(.slice none 0 0)])) 3 56:=by unfold fK;kernel_rfl
theorem eZ:fK Tryz.prog 118 ((.agg #[(.int .u8 0),(.int .i64 0),(.int .i64 0),(.slice none 0 0),(.slice none 0 0),(.slice none 0 0),(.bool false)])) 7 104:=by unfold fK;kernel_rfl
theorem qE:fK Tryz.prog 120 ((.slice none 0 0)) 1 24:=by unfold fK;kernel_rfl
theorem kj:fK Tryz.prog 122 ((.agg #[(.slice none 0 0),(.slice none 0 0)])) 2 48:=by unfold fK;kernel_rfl
theorem gi:fK Tryz.prog 129 ((.agg #[(.int .u8 0),(.int .u8 0)])) 2 2:=by unfold fK;kernel_rfl
theorem K6:fK Tryz.prog 140 (.nilFunc) 1 8:=by unfold fK;kernel_rfl
theorem SX:fK Tryz.prog 146 ((.agg #[(.int .i64 0),(.int .i64 0),(.slice none 0 0),(.slice none 0 0)])) 4 64:=by unfold fK;kernel_rfl
theorem Ru:fK Tryz.prog 149 ((.agg #[(.string ByteArray.empty),(.int .i64 0),(.slice none 0 0),(.int .i64 0)])) 4 56:=by unfold fK;kernel_rfl
theorem uj:fK Tryz.prog 153 ((.agg #[(.int .i64 0),(.int .i64 0)])) 2 16:=by unfold fK;kernel_rfl
theorem AR:fK Tryz.prog 160 (.map none) 1 8:=by unfold fK;kernel_rfl
theorem AA:fK Tryz.prog 163 ((.agg #[])) 0 0:=by unfold fK;kernel_rfl
theorem AJ:fK Tryz.prog 167 ((.slice none 0 0)) 1 24:=by unfold fK;kernel_rfl
theorem jk:fK Tryz.prog 169 ((.agg #[(.int .i64 0),(.int .i64 0),(.slice none 0 0)])) 3 40:=by unfold fK;kernel_rfl
theorem gM:fK Tryz.prog 173 ((.agg #[(.int .i64 0),(.int .i64 0)])) 2 16:=by unfold fK;kernel_rfl
theorem K7:fK Tryz.prog 180 (.nilFunc) 1 8:=by unfold fK;kernel_rfl
theorem lG:fK Tryz.prog 208 ((.agg #[(.int .i64 0),(.slice none 0 0)])) 2 32:=by unfold fK;kernel_rfl
theorem Kd:fK Tryz.prog 209 (.nilFunc) 1 8:=by unfold fK;kernel_rfl
theorem uC:fK Tryz.prog 227 (.pointer none) 1 8:=by unfold fK;kernel_rfl
theorem gY:fK Tryz.prog 234 ((.agg #[(.int .i64 0),(.int .i64 0)])) 2 16:=by unfold fK;kernel_rfl
theorem pm:fK Tryz.prog 235 ((.slice none 0 0)) 1 24:=by unfold fK;kernel_rfl
theorem AS:fK Tryz.prog 236 (.map none) 1 8:=by unfold fK;kernel_rfl
theorem EP:fK Tryz.prog 238 ((.agg #[(.int .i64 0),(.int .i64 0),(.slice none 0 0),(.slice none 0 0),(.int .i64 0),(.int .i64 0),(.slice none 0 0),(.slice none 0 0),(.slice none 0 0),(.map none)])) 10 160:=by unfold fK;kernel_rfl
theorem SY:fK Tryz.prog 260 ((.agg #[(.int .u8 0),(.int .u8 0),(.int .u8 0),(.int .u8 0),(.int .u8 0),(.int .u8 0),(.int .u8 0),(.int .u8 0),(.int .u8 0),(.int .u8 0),(.int .u8 0),(.int .u8 0),(.int .u8 0),(.int .u8 0),(.int .u8 0),(.int .u8 0),(.int .u8 0),(.int .u8 0),(.int .u8 0),(.int .u8 0),(.int .u8 0),(.int .u8 0),(.int .u8 0),(.int .u8 0)])) 24 24:=by unfold fK;kernel_rfl
theorem jj:qa Tryz.prog 25 [(0,1),(1,1),(2,1),(3,1)]:=⟨_,underlying25,fun w=>by simp[bZ bl,bZ fa,bZ dy]⟩
theorem qj:qa Tryz.prog 69 [(0,1),(1,1)]:=⟨_,underlying69,fun w=>by simp[bZ g_,bZ nE]⟩
theorem mV:qa Tryz.prog 72 [(0,1),(1,1),(2,1),(3,1),(4,1)]:=⟨_,underlying72,fun w=>by simp[bZ bl,bZ dF]⟩
theorem SZ:qa Tryz.prog 81 [(0,1),(1,1),(2,1)]:=⟨_,underlying81,fun w=>by simp[bZ bl,bZ g_]⟩
theorem sw:qa Tryz.prog 96 [(0,1),(1,1),(2,1),(3,1)]:=⟨_,underlying96,fun w=>by simp[bZ bl,bZ Ea]⟩
theorem Oi:qa Tryz.prog 114 [(0,1),(1,1),(2,1)]:=⟨_,underlying114,fun w=>by simp[bZ cU,bZ oC,bZ gy]⟩
theorem AO:qa Tryz.prog 118 [(0,1),(1,4),(5,1),(6,1)]:=⟨_,underlying118,fun w=>by simp[bZ fw,bZ dF,bZ bK,bZ cU]⟩
theorem F0:qa Tryz.prog 122 [(0,1),(1,1)]:=⟨_,underlying122,fun w=>by simp[bZ cU,bZ qE]⟩
theorem jh:qa Tryz.prog 129 [(0,1),(1,1)]:=⟨_,underlying129,fun w=>by simp[bZ dF]⟩
theorem Oo:qa Tryz.prog 146 [(0,4)]:=⟨_,underlying146,fun w=>by simp[bZ bK]⟩
theorem Np:qa Tryz.prog 149 [(0,1),(1,1),(2,1),(3,1)]:=⟨_,underlying149,fun w=>by simp[bZ bl,bZ Ea,bZ iV,bZ g_]⟩
theorem wk:qa Tryz.prog 163 []:=⟨_,underlying163,fun w=>by simp[]⟩
theorem AL:qa Tryz.prog 169 [(0,1),(1,1),(2,1)]:=⟨_,underlying169,fun w=>by simp[bZ bl,bZ AJ]⟩
theorem FT:qa Tryz.prog 208 [(0,1),(1,1)]:=⟨_,underlying208,fun w=>by simp[bZ bl,bZ cU]⟩
theorem F5:qa Tryz.prog 234 [(0,1),(1,1)]:=⟨_,underlying234,fun w=>by simp[bZ bl]⟩
theorem AT:qa Tryz.prog 238 [(0,4),(4,4),(8,1),(9,1)]:=⟨_,underlying238,fun w=>by simp[bZ bK,bZ pm,bZ AS]⟩
theorem Z0:Lx.Enters Tryz.prog 9 f9:=⟨func9,by kernel_rfl,F⟩
theorem K8:Lx.Enters Tryz.prog 11 f11:=⟨func11,by kernel_rfl,F⟩
theorem PI:Lx.Enters Tryz.prog 14 f14:=⟨func14,by kernel_rfl,F⟩
theorem VJ:Lx.Enters Tryz.prog 15 f15:=⟨func15,by kernel_rfl,F⟩
theorem PJ:Lx.Enters Tryz.prog 16 f16:=⟨func16,by kernel_rfl,F⟩
theorem JS:Lx.Enters Tryz.prog 19 f19:=⟨func19,by kernel_rfl,F⟩
theorem Vs:Lx.Enters Tryz.prog 22 f22:=⟨func22,by kernel_rfl,F⟩
theorem xm:Lx.Enters Tryz.prog 23 f23:=⟨func23,by kernel_rfl,F⟩
theorem Xc:Lx.Enters Tryz.prog 25 f25:=⟨func25,by kernel_rfl,F⟩
theorem Xd:Lx.Enters Tryz.prog 28 f28:=⟨func28,by kernel_rfl,F⟩
theorem PH:Lx.Enters Tryz.prog 29 f29:=⟨func29,by kernel_rfl,F⟩
theorem Vi:Lx.Enters Tryz.prog 31 f31:=⟨func31,by kernel_rfl,F⟩
theorem JR:Lx.Enters Tryz.prog 32 f32:=⟨func32,by kernel_rfl,F⟩
theorem BU:Lx.Enters Tryz.prog 39 f39:=⟨func39,by kernel_rfl,F⟩
theorem Jw:Lx.Enters Tryz.prog 40 f40:=⟨func40,by kernel_rfl,F⟩
theorem Pw:Lx.Enters Tryz.prog 41 f41:=⟨func41,by kernel_rfl,F⟩
theorem U8:Lx.Enters Tryz.prog 42 f42:=⟨func42,by kernel_rfl,F⟩
theorem Qm:Lx.Enters Tryz.prog 43 f43:=⟨func43,by kernel_rfl,F⟩
theorem Qn:Lx.Enters Tryz.prog 44 f44:=⟨func44,by kernel_rfl,F⟩
theorem K9:Lx.Enters Tryz.prog 45 f45:=⟨func45,by kernel_rfl,F⟩
theorem Xe:Lx.Enters Tryz.prog 46 f46:=⟨func46,by kernel_rfl,F⟩
theorem Vo:Lx.Enters Tryz.prog 47 f47:=⟨func47,by kernel_rfl,F⟩
theorem FD:Lx.Enters Tryz.prog 48 f48:=⟨func48,by kernel_rfl,F⟩
theorem FF:Lx.Enters Tryz.prog 49 f49:=⟨func49,by kernel_rfl,F⟩
theorem Qo:Lx.Enters Tryz.prog 50 f50:=⟨func50,by kernel_rfl,F⟩
theorem Qp:Lx.Enters Tryz.prog 51 f51:=⟨func51,by kernel_rfl,F⟩
theorem Xf:Lx.Enters Tryz.prog 52 f52:=⟨func52,by kernel_rfl,F⟩
theorem Ql:Lx.Enters Tryz.prog 54 f54:=⟨func54,by kernel_rfl,F⟩
theorem F3:Lx.Enters Tryz.prog 56 f56:=⟨func56,by kernel_rfl,F⟩
theorem Xg:Lx.Enters Tryz.prog 58 f58:=⟨func58,by kernel_rfl,F⟩
theorem Vt:Lx.Enters Tryz.prog 59 f59:=⟨func59,by kernel_rfl,F⟩
theorem UZ:Lx.Enters Tryz.prog 67 f67:=⟨func67,by kernel_rfl,F⟩
theorem Jo:Lx.Enters Tryz.prog 68 f68:=⟨func68,by kernel_rfl,F⟩
theorem Xh:Lx.Enters Tryz.prog 69 f69:=⟨func69,by kernel_rfl,F⟩
theorem Qk:Lx.Enters Tryz.prog 70 f70:=⟨func70,by kernel_rfl,F⟩
theorem Qj:Lx.Enters Tryz.prog 71 f71:=⟨func71,by kernel_rfl,F⟩
theorem pG:Lx.Enters Tryz.prog 72 f72:=⟨func72,by kernel_rfl,F⟩
theorem CN:Lx.Enters Tryz.prog 73 f73:=⟨func73,by kernel_rfl,F⟩
theorem W3:Lx.Enters Tryz.prog 74 f74:=⟨func74,by kernel_rfl,F⟩
theorem W1:Lx.Enters Tryz.prog 75 f75:=⟨func75,by kernel_rfl,F⟩
theorem WR:Lx.Enters Tryz.prog 76 f76:=⟨func76,by kernel_rfl,F⟩
theorem WV:Lx.Enters Tryz.prog 77 f77:=⟨func77,by kernel_rfl,F⟩
theorem WT:Lx.Enters Tryz.prog 78 f78:=⟨func78,by kernel_rfl,F⟩
theorem Vj:Lx.Enters Tryz.prog 79 f79:=⟨func79,by kernel_rfl,F⟩
theorem Vl:Lx.Enters Tryz.prog 80 f80:=⟨func80,by kernel_rfl,F⟩
theorem Qq:Lx.Enters Tryz.prog 81 f81:=⟨func81,by kernel_rfl,F⟩
theorem Qr:Lx.Enters Tryz.prog 82 f82:=⟨func82,by kernel_rfl,F⟩
theorem vp:Lx.Enters Tryz.prog 83 f83:=⟨func83,by kernel_rfl,F⟩
theorem Xi:Lx.Enters Tryz.prog 84 f84:=⟨func84,by kernel_rfl,F⟩
theorem K_:Lx.Enters Tryz.prog 85 f85:=⟨func85,by kernel_rfl,F⟩
theorem Xj:Lx.Enters Tryz.prog 86 f86:=⟨func86,by kernel_rfl,F⟩
theorem W8:Lx.Enters Tryz.prog 89 f89:=⟨func89,by kernel_rfl,F⟩
theorem K4:Lx.Enters Tryz.prog 90 f90:=⟨func90,by kernel_rfl,F⟩
theorem Qs:Lx.Enters Tryz.prog 91 f91:=⟨func91,by kernel_rfl,F⟩
theorem Qt:Lx.Enters Tryz.prog 94 f94:=⟨func94,by kernel_rfl,F⟩
theorem Xk:Lx.Enters Tryz.prog 95 f95:=⟨func95,by kernel_rfl,F⟩
theorem B8:Lx.Enters Tryz.prog 96 f96:=⟨func96,by kernel_rfl,F⟩
theorem Si:Lx.Enters Tryz.prog 100 f100:=⟨func100,by kernel_rfl,F⟩
theorem si:Lx.Enters Tryz.prog 101 f101:=⟨func101,by kernel_rfl,F⟩
theorem Ks:Lx.Enters Tryz.prog 102 f102:=⟨func102,by kernel_rfl,F⟩
theorem Ey:Lx.Enters Tryz.prog 103 f103:=⟨func103,by kernel_rfl,F⟩
theorem Kn:Lx.Enters Tryz.prog 104 f104:=⟨func104,by kernel_rfl,F⟩
theorem Sb:Lx.Enters Tryz.prog 105 f105:=⟨func105,by kernel_rfl,F⟩
theorem Sf:Lx.Enters Tryz.prog 106 f106:=⟨func106,by kernel_rfl,F⟩
theorem Sg:Lx.Enters Tryz.prog 107 f107:=⟨func107,by kernel_rfl,F⟩
theorem Eu:Lx.Enters Tryz.prog 108 f108:=⟨func108,by kernel_rfl,F⟩
theorem KL:Lx.Enters Tryz.prog 109 f109:=⟨func109,by kernel_rfl,F⟩
theorem EA:Lx.Enters Tryz.prog 110 f110:=⟨func110,by kernel_rfl,F⟩
theorem SL:Lx.Enters Tryz.prog 111 f111:=⟨func111,by kernel_rfl,F⟩
theorem ut:Lx.Enters Tryz.prog 112 f112:=⟨func112,by kernel_rfl,F⟩
theorem KN:Lx.Enters Tryz.prog 113 f113:=⟨func113,by kernel_rfl,F⟩
theorem ED:Lx.Enters Tryz.prog 114 f114:=⟨func114,by kernel_rfl,F⟩
theorem AM:Lx.Enters Tryz.prog 115 f115:=⟨func115,by kernel_rfl,F⟩
theorem KF:Lx.Enters Tryz.prog 116 f116:=⟨func116,by kernel_rfl,F⟩
theorem SJ:Lx.Enters Tryz.prog 117 f117:=⟨func117,by kernel_rfl,F⟩
theorem S0:Lx.Enters Tryz.prog 118 f118:=⟨func118,by kernel_rfl,F⟩
theorem S1:Lx.Enters Tryz.prog 119 f119:=⟨func119,by kernel_rfl,F⟩
theorem La:Lx.Enters Tryz.prog 120 f120:=⟨func120,by kernel_rfl,F⟩
theorem QI:Lx.Enters Tryz.prog 121 f121:=⟨func121,by kernel_rfl,F⟩
theorem QJ:Lx.Enters Tryz.prog 122 f122:=⟨func122,by kernel_rfl,F⟩
theorem S3:Lx.Enters Tryz.prog 124 f124:=⟨func124,by kernel_rfl,F⟩
theorem SU:Lx.Enters Tryz.prog 127 f127:=⟨func127,by kernel_rfl,F⟩
theorem S4:Lx.Enters Tryz.prog 128 f128:=⟨func128,by kernel_rfl,F⟩
theorem kP:Lx.Enters Tryz.prog 132 f132:=⟨func132,by kernel_rfl,F⟩
theorem Aw:Lx.Enters Tryz.prog 133 f133:=⟨func133,by kernel_rfl,F⟩
theorem Rk:Lx.Enters Tryz.prog 134 f134:=⟨func134,by kernel_rfl,F⟩
theorem Rl:Lx.Enters Tryz.prog 135 f135:=⟨func135,by kernel_rfl,F⟩
theorem Ex:Lx.Enters Tryz.prog 138 f138:=⟨func138,by kernel_rfl,F⟩
theorem S5:Lx.Enters Tryz.prog 139 f139:=⟨func139,by kernel_rfl,F⟩
theorem Sa:Lx.Enters Tryz.prog 140 f140:=⟨func140,by kernel_rfl,F⟩
theorem R_:Lx.Enters Tryz.prog 141 f141:=⟨func141,by kernel_rfl,F⟩
theorem R5:Lx.Enters Tryz.prog 142 f142:=⟨func142,by kernel_rfl,F⟩
theorem R7:Lx.Enters Tryz.prog 143 f143:=⟨func143,by kernel_rfl,F⟩
theorem Ka:Lx.Enters Tryz.prog 144 f144:=⟨func144,by kernel_rfl,F⟩
theorem R3:Lx.Enters Tryz.prog 145 f145:=⟨func145,by kernel_rfl,F⟩
theorem J0:Lx.Enters Tryz.prog 146 f146:=⟨func146,by kernel_rfl,F⟩
theorem Em:Lx.Enters Tryz.prog 147 f147:=⟨func147,by kernel_rfl,F⟩
theorem AD:Lx.Enters Tryz.prog 148 f148:=⟨func148,by kernel_rfl,F⟩
theorem J9:Lx.Enters Tryz.prog 149 f149:=⟨func149,by kernel_rfl,F⟩
theorem R9:Lx.Enters Tryz.prog 150 f150:=⟨func150,by kernel_rfl,F⟩
theorem S6:Lx.Enters Tryz.prog 151 f151:=⟨func151,by kernel_rfl,F⟩
theorem S7:Lx.Enters Tryz.prog 152 f152:=⟨func152,by kernel_rfl,F⟩
theorem Kb:Lx.Enters Tryz.prog 153 f153:=⟨func153,by kernel_rfl,F⟩
theorem RZ:Lx.Enters Tryz.prog 154 f154:=⟨func154,by kernel_rfl,F⟩
theorem RT:Lx.Enters Tryz.prog 155 f155:=⟨func155,by kernel_rfl,F⟩
theorem RU:Lx.Enters Tryz.prog 156 f156:=⟨func156,by kernel_rfl,F⟩
theorem RW:Lx.Enters Tryz.prog 157 f157:=⟨func157,by kernel_rfl,F⟩
theorem Su:Lx.Enters Tryz.prog 159 f159:=⟨func159,by kernel_rfl,F⟩
theorem Az:Lx.Enters Tryz.prog 160 f160:=⟨func160,by kernel_rfl,F⟩
theorem Sy:Lx.Enters Tryz.prog 161 f161:=⟨func161,by kernel_rfl,F⟩
theorem KJ:Lx.Enters Tryz.prog 162 f162:=⟨func162,by kernel_rfl,F⟩
theorem Sz:Lx.Enters Tryz.prog 163 f163:=⟨func163,by kernel_rfl,F⟩
theorem Sq:Lx.Enters Tryz.prog 164 f164:=⟨func164,by kernel_rfl,F⟩
theorem Sp:Lx.Enters Tryz.prog 165 f165:=⟨func165,by kernel_rfl,F⟩
theorem Sk:Lx.Enters Tryz.prog 166 f166:=⟨func166,by kernel_rfl,F⟩
theorem Sh:Lx.Enters Tryz.prog 167 f167:=⟨func167,by kernel_rfl,F⟩
theorem S8:Lx.Enters Tryz.prog 168 f168:=⟨func168,by kernel_rfl,F⟩
theorem nl:Lx.Enters Tryz.prog 171 f171:=⟨func171,by kernel_rfl,F⟩
theorem Av:Lx.Enters Tryz.prog 189 f189:=⟨func189,by kernel_rfl,F⟩
theorem EQ:Lx.Enters Tryz.prog 190 f190:=⟨func190,by kernel_rfl,F⟩
theorem Lb:Lx.Enters Tryz.prog 191 f191:=⟨func191,by kernel_rfl,F⟩
theorem RJ:Lx.Enters Tryz.prog 192 f192:=⟨func192,by kernel_rfl,F⟩
theorem RK:Lx.Enters Tryz.prog 193 f193:=⟨func193,by kernel_rfl,F⟩
theorem Ef:Lx.Enters Tryz.prog 194 f194:=⟨func194,by kernel_rfl,F⟩
theorem RI:Lx.Enters Tryz.prog 195 f195:=⟨func195,by kernel_rfl,F⟩
theorem RH:Lx.Enters Tryz.prog 196 f196:=⟨func196,by kernel_rfl,F⟩
theorem RL:Lx.Enters Tryz.prog 197 f197:=⟨func197,by kernel_rfl,F⟩
theorem RM:Lx.Enters Tryz.prog 198 f198:=⟨func198,by kernel_rfl,F⟩
theorem JV:Lx.Enters Tryz.prog 210 f210:=⟨func210,by kernel_rfl,F⟩
theorem Sx:Lx.Enters Tryz.prog 211 f211:=⟨func211,by kernel_rfl,F⟩
theorem Sv:Lx.Enters Tryz.prog 212 f212:=⟨func212,by kernel_rfl,F⟩
theorem Sn:Lx.Enters Tryz.prog 213 f213:=⟨func213,by kernel_rfl,F⟩
theorem S9:Lx.Enters Tryz.prog 214 f214:=⟨func214,by kernel_rfl,F⟩
theorem S_:Lx.Enters Tryz.prog 215 f215:=⟨func215,by kernel_rfl,F⟩
theorem Ta:Lx.Enters Tryz.prog 216 f216:=⟨func216,by kernel_rfl,F⟩
theorem Lc:Lx.Enters Tryz.prog 218 f218:=⟨func218,by kernel_rfl,F⟩
theorem Tb:Lx.Enters Tryz.prog 219 f219:=⟨func219,by kernel_rfl,F⟩
theorem JU:Lx.Enters Tryz.prog 231 f231:=⟨func231,by kernel_rfl,F⟩
theorem Sr:Lx.Enters Tryz.prog 232 f232:=⟨func232,by kernel_rfl,F⟩
theorem KG:Lx.Enters Tryz.prog 240 f240:=⟨func240,by kernel_rfl,F⟩
end Go.Proofs.YtgdbfideeeegmaaGreatDoor

namespace Go.Proofs.YtgdbfideeeegmaaGreatDoor
open Go.Lx Go.RowKit _root_.Go.Proofs.Tryz
theorem HZ (w:World) (b1 b2:Option Addr) (c1 c2:Nat) (xs ys:List Int) (h1:Sl w b1 (ints xs)) (h2:Sl w b2 (ints ys)) (hb:xs.length<9223372036854775807):
  cA Tryz.prog 69 [(.slice b1 xs.length c1),(.slice b2 ys.length c2)] w fun v N=>v=.bool (decide (xs=ys))∧N=[]:=by
 refine aG func69 F ntmps69 F ?_
 refine ai (aj F (ae (aO (ai (ah F (ad (cP underlying56 F) (ah F (ad (cP underlying56 F) (ad (dP F F) (ae (aP F (fun hc=>?_) (fun hc=>?_))))))))))))
 ·have ln:xs.length≠ys.length:=by omega
  have iM:xs.length≠ys.length:=by omega
  refine ai (aj F (ae (aN ?_)))
  refine aT (.bool false) Tryz.results69 F ?_
  exact⟨ax Value.bool (ak (fun e=>iM (by rw[e]))).symm,F⟩
 have vh: ¬xs.length≠ys.length:=by omega
 have iM:xs.length=ys.length:=by omega
 refine aE (aO (ai (aj F (ae (aU ?_)))))
 refine et (fun(k:Nat) ρ O=>O=[]∧k≤xs.length∧xs.take k=ys.take k∧dt [(0,(.slice b1 xs.length c1)),(1,(.slice b2 ys.length c2)),(5,vI (k:Int))] ρ) (fun k=>xs.length-k) 0 ?_ ?_
 ·exact⟨F,bs _,F,⟨F,F,F,trivial⟩⟩
 rintro k ρ O ⟨rfl,hk,he,hH⟩
 obtain⟨gP,rfl⟩:=hH.elim
 clear hH
 refine aO (ai (ah F (ah F (ad (cP underlying56 F) (ad (cR F F) (ae (aP F (fun hc=>?_) (fun hc=>?_))))))))
 ·have pI:k<xs.length:=by omega
  have gn:k<xs.length:=by omega
  have lC:k<ys.length:=by omega
  obtain⟨kb1,ko1,rfl⟩:=h1.addr (i:=k) (by simpa using gn)
  obtain⟨kb2,ko2,rfl⟩:=h2.addr (i:=k) (by simpa using lC)
  refine aE (aO (aU (aO ?_)))
  refine fQ [(0,0),(1,0),(2,0),(3,0),(4,0),(5,0),(6,0),(7,0),(8,0)] ?_
  refine au F (aK F) (au F (aK F) (au F (y9 underlying56 bl F F gn) (au F (mC underlying3 F F h1 (gI gn)) (au F (aK F) (au F (aK F) (au F (y9 underlying56 bl F F lC) (au F (mC underlying3 F F h2 (gI lC)) (au F (dP F F) ?_))))))))
  refine cy ?_
  refine aP (p:= ¬xs[k]=ys[k]) F (fun hc=>?_) (fun hc=>?_)
  ·refine aO ?_
   refine be (aj F (ae (aN ?_)))
   refine aT (.bool false) Tryz.results69 F ?_
   exact⟨ax Value.bool (ak (fun e=>hc (by subst e;rfl))).symm,F⟩
  refine aE (be (ah F (ad (kp F F (by omega)) (aj F (ae ?_)))))
  refine⟨k+1,by omega,F,by omega,?_,⟨F,F,F,trivial⟩⟩
  rw[aH gn,aH lC,he]
  exact ax _ (ax (fun z=>[z]) (Classical.not_not.1 hc))
 have xG: ¬k<xs.length:=by omega
 refine cG ?_
 refine ai (aj F (ae (aN ?_)))
 refine aT (.bool true) Tryz.results69 F ?_
 exact⟨ax Value.bool (av (show xs=ys by rw[bt (by omega),bt (by omega)]at he;exact he)).symm,F⟩
theorem xS (w:World) (b1 b2:Option Addr) (c1 c2:Nat) (xs ys:List Bool) (h1:Sl w b1 (cE xs)) (h2:Sl w b2 (cE ys)) (hb:xs.length<9223372036854775807):
  cA Tryz.prog 44 [(.slice b1 xs.length c1),(.slice b2 ys.length c2)] w fun v N=>v=.bool (decide (xs=ys))∧N=[]:=by
 refine aG func44 F ntmps44 F ?_
 refine ai (aj F (ae (aO (ai (ah F (ad (cP underlying23 F) (ah F (ad (cP underlying23 F) (ad (dP F F) (ae (aP F (fun hc=>?_) (fun hc=>?_))))))))))))
 ·have ln:xs.length≠ys.length:=by omega
  have iM:xs.length≠ys.length:=by omega
  refine ai (aj F (ae (aN ?_)))
  refine aT (.bool false) Tryz.results44 F ?_
  exact⟨ax Value.bool (ak (fun e=>iM (by rw[e]))).symm,F⟩
 have vh: ¬xs.length≠ys.length:=by omega
 have iM:xs.length=ys.length:=by omega
 refine aE (aO (ai (aj F (ae (aU ?_)))))
 refine et (fun(k:Nat) ρ O=>O=[]∧k≤xs.length∧xs.take k=ys.take k∧dt [(0,(.slice b1 xs.length c1)),(1,(.slice b2 ys.length c2)),(5,vI (k:Int))] ρ) (fun k=>xs.length-k) 0 ?_ ?_
 ·exact⟨F,bs _,F,⟨F,F,F,trivial⟩⟩
 rintro k ρ O ⟨rfl,hk,he,hH⟩
 obtain⟨gP,rfl⟩:=hH.elim
 clear hH
 refine aO (ai (ah F (ah F (ad (cP underlying23 F) (ad (cR F F) (ae (aP F (fun hc=>?_) (fun hc=>?_))))))))
 ·have pI:k<xs.length:=by omega
  have gn:k<xs.length:=by omega
  have lC:k<ys.length:=by omega
  obtain⟨kb1,ko1,rfl⟩:=h1.addr (i:=k) (by simpa using gn)
  obtain⟨kb2,ko2,rfl⟩:=h2.addr (i:=k) (by simpa using lC)
  refine aE (aO (aU (aO ?_)))
  refine fQ [(0,0),(1,0),(2,0),(3,0),(4,0),(5,0),(6,0),(7,0),(8,0)] ?_
  refine au F (aK F) (au F (aK F) (au F (y9 underlying23 fw F F gn) (au F (mC underlying4 F F h1 (iy gn)) (au F (aK F) (au F (aK F) (au F (y9 underlying23 fw F F lC) (au F (mC underlying4 F F h2 (iy lC)) (au F (I8 underlying4 F F) ?_))))))))
  refine cy ?_
  refine aP (p:= ¬xs[k]=ys[k]) (ax Value.bool (by cases xs[k]<;>cases ys[k]<;>rfl)) (fun hc=>?_) (fun hc=>?_)
  ·refine aO ?_
   refine be (aj F (ae (aN ?_)))
   refine aT (.bool false) Tryz.results44 F ?_
   exact⟨ax Value.bool (ak (fun e=>hc (by subst e;rfl))).symm,F⟩
  refine aE (be (ah F (ad (kp F F (by omega)) (aj F (ae ?_)))))
  refine⟨k+1,by omega,F,by omega,?_,⟨F,F,F,trivial⟩⟩
  rw[aH gn,aH lC,he]
  exact ax _ (ax (fun z=>[z]) (Classical.not_not.1 hc))
 have xG: ¬k<xs.length:=by omega
 refine cG ?_
 refine ai (aj F (ae (aN ?_)))
 refine aT (.bool true) Tryz.results44 F ?_
 exact⟨ax Value.bool (av (show xs=ys by rw[bt (by omega),bt (by omega)]at he;exact he)).symm,F⟩
theorem zM (w:World) (b1 b2:Option Addr) (c1 c2:Nat) (vs us:List Value) (rs ss:List (List Int)) (h1:Sl w b1 vs) (hr1:nZ w vs rs) (h2:Sl w b2 us) (KO:nZ w us ss) (hb:rs.length<9223372036854775807) (qV: ∀r∈rs,r.length<9223372036854775807):
  cA Tryz.prog 43 [.slice b1 rs.length c1,.slice b2 ss.length c2] w fun v N=>v=.bool (decide (rs=ss))∧N=[]:=by
 refine aG func43 F ntmps43 F ?_
 refine ai (aj F (ae (aO (ai (ah F (ad (cP underlying22 F) (ah F (ad (cP underlying22 F) (ad (dP F F) (ae (aP F (fun hc=>?_) (fun hc=>?_))))))))))))
 ·have ln:rs.length≠ss.length:=by omega
  have iM:rs.length≠ss.length:=by omega
  refine ai (aj F (ae (aN ?_)))
  refine aT (.bool false) Tryz.results43 F ?_
  exact⟨ax Value.bool (ak (fun e=>iM (by rw[e]))).symm,F⟩
 have vh: ¬rs.length≠ss.length:=by omega
 have iM:rs.length=ss.length:=by omega
 refine aE (aO (ai (aj F (ae (aU ?_)))))
 refine et (fun(k:Nat) ρ O=>O=[]∧k≤rs.length∧rs.take k=ss.take k∧dt [(0,(.slice b1 rs.length c1)),(1,(.slice b2 ss.length c2)),(5,vI (k:Int))] ρ) (fun k=>rs.length-k) 0 ?_ ?_
 ·exact⟨F,bs _,F,⟨F,F,F,trivial⟩⟩
 rintro k ρ O ⟨rfl,hk,he,hH⟩
 obtain⟨gP,rfl⟩:=hH.elim
 clear hH
 refine aO (ai (ah F (ah F (ad (cP underlying22 F) (ad (cR F F) (ae (aP F (fun hc=>?_) (fun hc=>?_))))))))
 ·have pI:k<rs.length:=by omega
  have gn:k<rs.length:=by omega
  have lC:k<ss.length:=by omega
  obtain⟨X0,X1,g1,s1⟩:=hr1.get gn
  obtain⟨vb2,vc2,g2,s2⟩:=KO.get lC
  obtain⟨kb1,ko1,rfl⟩:=h1.addr (i:=k) (by rw[hr1.1];exact gn)
  obtain⟨kb2,ko2,rfl⟩:=h2.addr (i:=k) (by rw[KO.1];exact lC)
  refine aE (aO (aU (aO ?_)))
  refine fQ [(0,0),(1,0),(2,0),(3,0),(4,0),(5,0),(6,0),(7,0),(8,2),(9,2)] ?_
  refine au F (aK F) (au F (aK F) (au F (y9 underlying22 cU F F gn) (au F (mC underlying56 F F h1 g1) (au F (aK F) (au F (aK F) (au F (y9 underlying22 cU F F lC) (au F (mC underlying56 F F h2 g2) ?_)))))))
  have qy:=fun(w1:World) (hI:Inv w [] w1)=>HZ w1 X0 vb2 X1 vc2 rs[k] ss[k] (hI.sl s1) (hI.sl s2) (qV _ (aL gn))
  refine cu F F (bm Xh (aX qy) F ?_)
  clear qy
  rintro v O' ⟨N,rfl,rfl,rfl⟩
  refine cu F F (eO F F (i_ F) ?_)
  refine cy ?_
  refine aP (p:= ¬rs[k]=ss[k]) (ax Value.bool (by simp)) (fun hc=>?_) (fun hc=>?_)
  ·refine aO ?_
   refine be (aj F (ae (aN ?_)))
   refine aT (.bool false) Tryz.results43 F ?_
   exact⟨ax Value.bool (ak (fun e=>hc (by subst e;rfl))).symm,F⟩
  refine aE (be (ah F (ad (kp F F (by omega)) (aj F (ae ?_)))))
  refine⟨k+1,by omega,F,by omega,?_,⟨F,F,F,trivial⟩⟩
  rw[aH gn,aH lC,he]
  exact ax _ (ax (fun z=>[z]) (Classical.not_not.1 hc))
 have xG: ¬k<rs.length:=by omega
 refine cG ?_
 refine ai (aj F (ae (aN ?_)))
 refine aT (.bool true) Tryz.results43 F ?_
 exact⟨ax Value.bool (av (show rs=ss by rw[bt (by omega),bt (by omega)]at he;exact he)).symm,F⟩
theorem Bk (w:World) (d e:cM) (Ds Dt Du oS:Option Addr) (GW GX GY pP:Nat) (vs us:List Value) (h1:ii w d Ds vs Du) (h2:ii w e Dt us oS) (hb:d.next.length<9223372036854775807) (qV: ∀r∈d.next,r.length<9223372036854775807) (rP:d.aV.length<9223372036854775807):
  cA Tryz.prog 16 [.agg (eG d Ds GW Du GY).toArray,.agg (eG e Dt GX oS pP).toArray] w fun v N=>v=.bool (decide (d=e))∧True:=by
 refine aG func16 F ntmps16 F ?_
 refine ai (ao F (dE (cs:=[(vI d.vars),(vI d.start),(.slice Ds d.next.length GW),(.slice Du d.aV.length GY)]) F F (fun b1=>?_)))
 refine ao F (dE (cs:=[(vI e.vars),(vI e.start),(.slice Dt e.next.length GX),(.slice oS e.aV.length pP)]) F F (fun b2=>?_))
 refine aj F (ae (ai (ad (bj underlying25 F bl F F) (ad (bn 1 underlying3 F F F F) (ad (bj underlying25 F bl F F) (ad (bn 0 underlying3 F F F F) ?_))))))
 by_cases e1:d.vars=e.vars
 ·refine ad (aA (bM F F) (av e1)) ?_
  refine ah F (aB F F (bj underlying25 F bl F F) (aB F F (bn 1 underlying3 F F F F) (aB F F (bj underlying25 F bl F F) (aB F F (bn 0 underlying3 F F F F) ?_))))
  by_cases e2:d.start=e.start
  ·refine aB F F (aA (bM F F) (av e2)) ?_
   refine ad (cg F F) (ah F (aB F F (bj underlying25 F fa F F) (aB F F (bn 1 underlying22 F F F F) (aB F F (bj underlying25 F fa F F) (aB F F (bn 0 underlying22 F F F F) ?_)))))
   by_cases e3:d.next=e.next
   ·let eJ:List Lx.Item:=[oI b2 25 [(vI e.vars),(vI e.start),(.slice Dt e.next.length GX),(.slice oS e.aV.length pP)],oI b1 25 [(vI d.vars),(vI d.start),(.slice Ds d.next.length GW),(.slice Du d.aV.length GY)]]
    have Ll:=fun(w1:World) (hI:Inv w eJ w1)=>zM w1 Ds Dt GW GX vs us d.next e.next (hI.sl h1.outer) (hI.rows h1.rows) (hI.sl h2.outer) (hI.rows h2.rows) hb qV
    refine iv F F F (bm Qm (aX Ll) F ?_)
    clear Ll
    rintro v O' ⟨N,rfl,rfl,rfl⟩
    rw[av e3]
    refine ad (cg F F) (ah F (aB F F (bj underlying25 F dy F F) (aB F F (bn 1 underlying23 F F F F) (aB F F (bj underlying25 F dy F F) (aB F F (bn 0 underlying23 F F F F) ?_)))))
    by_cases e4:d.aV=e.aV
    ·have tg:=fun(w1:World) (hI:Inv w eJ w1)=>xS w1 Du oS GY pP d.aV e.aV (hI.sl h1.aV) (hI.sl h2.aV) rP
     refine iv F F F (bm Qn (aX tg) F ?_)
     clear tg
     rintro v O' ⟨N,rfl,rfl,rfl⟩
     rw[av e4]
     refine ad (cg F F) (aj F (ae (aN ?_)))
     refine aT (.bool true) Tryz.results16 F ?_
     refine⟨ax Value.bool (av ?_).symm,trivial⟩
     cases d;cases e;simp only at e1 e2 e3 e4;rw[e1,e2,e3,e4]
    have tg:=fun(w1:World) (hI:Inv w [oI b2 25 [(vI e.vars),(vI e.start),(.slice Dt e.next.length GX),(.slice oS e.aV.length pP)],oI b1 25 [(vI d.vars),(vI d.start),(.slice Ds d.next.length GW),(.slice Du d.aV.length GY)]] w1)=>xS w1 Du oS GY pP d.aV e.aV (hI.sl h1.aV) (hI.sl h2.aV) rP
    refine iv F F F (bm Qn (aX tg) F ?_)
    clear tg
    rintro v O' ⟨N,rfl,rfl,rfl⟩
    rw[ak e4]
    refine ad (cg F F) (aj F (ae (aN ?_)))
    refine aT (.bool false) Tryz.results16 F ?_
    exact⟨ax Value.bool (ak (fun q=>e4 (ax cM.aV q))).symm,trivial⟩
   have Ll:=fun(w1:World) (hI:Inv w [oI b2 25 [(vI e.vars),(vI e.start),(.slice Dt e.next.length GX),(.slice oS e.aV.length pP)],oI b1 25 [(vI d.vars),(vI d.start),(.slice Ds d.next.length GW),(.slice Du d.aV.length GY)]] w1)=>zM w1 Ds Dt GW GX vs us d.next e.next (hI.sl h1.outer) (hI.rows h1.rows) (hI.sl h2.outer) (hI.rows h2.rows) hb qV
   refine iv F F F (bm Qm (aX Ll) F ?_)
   clear Ll
   rintro v O' ⟨N,rfl,rfl,rfl⟩
   rw[ak e3]
   refine ad (cg F F) (ah F (aS F F (aS F F (aS F F (aS F F (aS F F (ad (b_ F F) (aj F (ae (aN ?_))))))))))
   refine aT (.bool false) Tryz.results16 F ?_
   exact⟨ax Value.bool (ak (fun q=>e3 (ax cM.next q))).symm,trivial⟩
  refine aB F F (aA (bM F F) (ak e2)) (ad (cg F F) (ah F (aS F F (aS F F (aS F F (aS F F (aS F F (ad (b_ F F) (ah F ?_)))))))))
  refine aS F F (aS F F (aS F F (aS F F (aS F F (ad (b_ F F) (aj F (ae (aN ?_))))))))
  refine aT (.bool false) Tryz.results16 F ?_
  exact⟨ax Value.bool (ak (fun q=>e2 (ax cM.start q))).symm,trivial⟩
 refine ad (aA (bM F F) (ak e1)) (ah F (aS F F (aS F F (aS F F (aS F F (aS F F (ad (b_ F F) (ah F (aS F F ?_)))))))))
 refine aS F F (aS F F (aS F F (aS F F (ad (b_ F F) (ah F (aS F F (aS F F (aS F F ?_))))))))
 refine aS F F (aS F F (ad (b_ F F) (aj F (ae (aN ?_)))))
 refine aT (.bool false) Tryz.results16 F ?_
 exact⟨ax Value.bool (ak (fun q=>e1 (ax cM.vars q))).symm,trivial⟩
end Go.Proofs.YtgdbfideeeegmaaGreatDoor

